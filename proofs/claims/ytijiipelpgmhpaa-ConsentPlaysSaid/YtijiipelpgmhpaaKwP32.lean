/- Own work: a part of the proofs of this seat. -/
import Derived.Test.YtijiipelpgmhpaaKwPlain
import Derived.Test.YtijiipelpgmhpaaKwMapP
import Derived.Test.YtijiipelpgmhpaaKwIS
import Derived.KernelRfl
import Derived.Lib.IndexMore
import Derived.Lib.CountLaws
import Derived.Laws.RangeString
import Derived.Laws.RangeAny
set_option linter.unusedVariables false
set_option linter.unusedSimpArgs false
namespace Go.KW.S
open Go Go.KW
/-! ### words -/
def isW (c : Int) : Bool := (((decide (c ≥ 65) && decide (c ≤ 90)) || (decide (c ≥ 97) && decide (c ≤ 122))) || (decide (c ≥ 48) && decide (c ≤ 57))) || c == 45 || c == 95 || c == 46 || c == 58
def word (s : Str) : Bool := s.all (fun u => isW u.toNat) && (decide (1 ≤ s.length) && decide (s.length ≤ 64))

theorem fold_Word_1_eq (c : Int) : fold_Word_1 c = some (isW c) := by
  simp only [fold_Word_1, fold_letter, fold_upper, fold_digit, isW, Option.bind_some]
  cases (decide (c ≥ 65) && decide (c ≤ 90)) <;> cases (decide (c ≥ 97) && decide (c ≤ 122)) <;> simp
theorem fold_made_eq (s : Str) (hs : fits s) : fold_made__Word_1 s = some (word s) := by
  have key : ∀ (r : Str) (i n : Nat), s.drop i = r → i ≤ s.length → r.length < n →
      fold_made__Word_1_L1 n s (s.length : Int) (i : Int) = some (r.all (fun u => isW u.toNat) && (decide (1 ≤ s.length) && decide (s.length ≤ 64))) := by
    intro r
    induction r with
    | nil =>
      intro i n hd hi hn
      obtain ⟨n, rfl⟩ : ∃ k, n = k + 1 := ⟨n - 1, by simp at hn; omega⟩
      have := drop_nil hd
      simp only [fold_made__Word_1_L1, show ¬ ((i : Int) < s.length) by omega, decide_false, Bool.false_eq_true, if_false, List.all_nil, Bool.true_and, Option.some.injEq]
      rw [Bool.eq_iff_iff]; cases s <;> simp <;> omega
    | cons u r ih =>
      intro i n hd hi hn
      obtain ⟨n, rfl⟩ : ∃ k, n = k + 1 := ⟨n - 1, by simp at hn; omega⟩
      obtain ⟨h1, h2, h3⟩ := drop_more hd
      have hlt := drop_lt hd
      have := hs; unfold fits at this
      simp only [fold_made__Word_1_L1, show ((i : Int) < s.length) by omega, decide_true, if_true, inb_n, h1, chk_true, byteAt_some h2, fold_Word_1_eq, Option.bind_some, w64n (show i < 9223372036854775807 by omega), List.all_cons]
      cases isW u.toNat with
      | false => simp
      | true => simpa using ih (i + 1) n h3 (by omega) (by simp at hn; omega)
  exact key s 0 fuel rfl (by omega) (fuel_pos hs)
theorem fold_Word_eq (s : Str) (hs : fits s) : fold_Word s = some (word s) := by
  simp [fold_Word, fold_made_eq s hs]

theorem ref01_Word_eq (s : Str) (hs : fits s) : ref01_Word s = some (word s) := by
  have key : ∀ (r : Str) (i n : Nat), s.drop i = r → i ≤ s.length → r.length < n →
      ref01_Word_L1 n s (i : Int) = some (r.all (fun u => isW u.toNat) && (decide (1 ≤ s.length) && decide (s.length ≤ 64))) := by
    intro r
    induction r with
    | nil =>
      intro i n hd hi hn
      obtain ⟨n, rfl⟩ : ∃ k, n = k + 1 := ⟨n - 1, by simp at hn; omega⟩
      have := drop_nil hd
      simp only [ref01_Word_L1, show ¬ ((i : Int) < s.length) by omega, decide_false, Bool.false_eq_true, if_false, List.all_nil, Bool.true_and, Option.some.injEq]
      rw [Bool.eq_iff_iff]; simp; omega
    | cons u r ih =>
      intro i n hd hi hn
      obtain ⟨n, rfl⟩ : ∃ k, n = k + 1 := ⟨n - 1, by simp at hn; omega⟩
      obtain ⟨h1, h2, h3⟩ := drop_more hd
      have hlt := drop_lt hd
      have := hs; unfold fits at this
      have ih' := ih (i + 1) n h3 (by omega) (by simp at hn; omega)
      have e : isW u.toNat = ((((((decide ((u.toNat : Int) ≥ 65) && decide ((u.toNat : Int) ≤ 90)) || (decide ((u.toNat : Int) ≥ 97) && decide ((u.toNat : Int) ≤ 122))) || (decide ((u.toNat : Int) ≥ 48) && decide ((u.toNat : Int) ≤ 57))) || (u.toNat : Int) == 45) || (u.toNat : Int) == 95) || (u.toNat : Int) == 46 || (u.toNat : Int) == 58) := by
        simp [isW, Bool.or_assoc]
      simp only [ref01_Word_L1, show ((i : Int) < s.length) by omega, decide_true, if_true, inb_n, h1, chk_true, byteAt_some h2, ref01_letter, ref01_digit, Option.bind_some, w64n (show i < 9223372036854775807 by omega), List.all_cons, ih', e, bne]
      generalize (r.all fun u => isW u.toNat) = q
      generalize (decide ((u.toNat : Int) ≥ 97) && decide ((u.toNat : Int) ≤ 122)) = a
      generalize (decide ((u.toNat : Int) ≥ 65) && decide ((u.toNat : Int) ≤ 90)) = b
      generalize (decide ((u.toNat : Int) ≥ 48) && decide ((u.toNat : Int) ≤ 57)) = c
      generalize ((u.toNat : Int) == 45) = d
      generalize ((u.toNat : Int) == 95) = e1
      generalize ((u.toNat : Int) == 46) = f
      generalize ((u.toNat : Int) == 58) = g
      cases a <;> cases b <;> cases c <;> cases d <;> cases e1 <;> cases f <;> cases g <;> simp
  exact key s 0 fuel rfl (by omega) (fuel_pos hs)
/-- an instant by Rule 6 -/
def lim (t : Int) : Int := gmin (gmax t 0) 1099511627776
theorem lim_range (t : Int) : 0 ≤ lim t ∧ lim t ≤ 1099511627776 := by unfold lim gmin gmax; split <;> split <;> omega
theorem lim_eq (t : Int) : gmax 0 (gmin t 1099511627776) = lim t := by unfold lim gmin gmax; repeat' split <;> omega
theorem lim_val (t : Int) : lim t = if t < 0 then 0 else if t > 1099511627776 then 1099511627776 else t := by unfold lim gmin gmax; repeat' split <;> omega
/-- two dots in a row -/
def dots : Str → Bool
  | a :: b :: r => (a == 46 && b == 46) || dots (b :: r)
  | _ => false
def valid (s : Str) : Bool := word s && !(s.head? == some 46) && !(s.getLast? == some 46) && !dots s
theorem contains_dots (s : Str) : Lib.contains s [46, 46] = dots s := by
  have key : ∀ s : Str, (decide (0 ≤ Lib.index s [46, 46]) = dots s) ∧ -1 ≤ Lib.index s [46, 46] := by
    intro s
    induction s with
    | nil => exact ⟨rfl, by decide⟩
    | cons a r ih =>
      obtain ⟨ih1, ih2⟩ := ih
      have hi : Lib.index (a :: r) [46, 46] = if ([46, 46] : Str).isPrefixOf (a :: r) then 0 else if Lib.index r [46, 46] == -1 then -1 else Lib.index r [46, 46] + 1 := by
        simp only [Lib.index]
      have hp : ([46, 46] : Str).isPrefixOf (a :: r) = (a == 46 && r.head? == some 46) := by
        cases r with
        | nil => simp [List.isPrefixOf]
        | cons b r => simp [List.isPrefixOf, Bool.beq_comm]
      have hd : dots (a :: r) = ((a == 46 && r.head? == some 46) || dots r) := by
        cases r with
        | nil => simp [dots]
        | cons b r => simp [dots]
      rw [hi, hp, hd, ← ih1]
      cases (a == 46 && r.head? == some 46) with
      | true => simp
      | false =>
        simp only [Bool.false_eq_true, if_false, Bool.false_or]
        by_cases h : Lib.index r [46, 46] = -1
        · rw [h]; simp
        · have h' : (Lib.index r [46, 46] == -1) = false := by simpa using h
          rw [h']
          simp only [Bool.false_eq_true, if_false]
          refine ⟨?_, by omega⟩
          rw [Bool.eq_iff_iff]; simp; omega
  exact (key s).1
theorem u8_eq (u : UInt8) (k : Nat) (hk : k < 256) : ((u.toNat : Int) == (k : Int)) = (u == UInt8.ofNat k) := by
  rw [Bool.eq_iff_iff, beq_iff_eq, beq_iff_eq]
  constructor
  · intro h
    have : u.toNat = k := by omega
    exact UInt8.toNat_inj.1 (by rw [this, UInt8.toNat_ofNat_of_lt' (by simpa using hk)])
  · rintro rfl
    rw [UInt8.toNat_ofNat_of_lt' (by simpa using hk)]
theorem u8_46 (u : UInt8) : ((u.toNat : Int) == 46) = (u == 46) := u8_eq u 46 (by decide)
theorem byteAt_first {s : Str} (h : 1 ≤ s.length) : (byteAt s 0 == 46) = (s.head? == some 46) := by
  cases s with
  | nil => simp at h
  | cons a r =>
    have : byteAt (a :: r) 0 = (a.toNat : Int) := by simp [byteAt]
    rw [this, u8_46]; simp
theorem byteAt_end {s : Str} (h : 1 ≤ s.length) : (byteAt s (((s.length - 1 : Nat) : Int)) == 46) = (s.getLast? == some 46) := by
  have h1 : s[s.length - 1]? = some s[s.length - 1] := List.getElem?_eq_getElem (by omega)
  rw [byteAt_some h1, u8_46, List.getLast?_eq_getElem?, h1]; simp
theorem word_len {s : Str} (h : word s = true) : 1 ≤ s.length ∧ s.length ≤ 64 := by
  simp only [word, Bool.and_eq_true, decide_eq_true_eq] at h; exact h.2
theorem word_fits {s : Str} (h : word s = true) : fits s := by have := word_len h; unfold fits; omega
theorem last_ix {s : Str} (h : 1 ≤ s.length ∧ s.length ≤ 64) : IntKind.i64.wrap ((s.length : Int) - 1) = ((s.length - 1 : Nat) : Int) := by
  rw [w64 (by omega) (by omega)]; omega
theorem inb_0 {n : Nat} (h : 1 ≤ n) : inb 0 n = true := by simp [inb] <;> omega
theorem scope_valid_eq (s : Str) (hs : fits s) : scope_valid s = some (valid s) := by
  unfold scope_valid valid
  rw [fold_Word_eq s hs, Option.bind_some]
  cases hw : word s with
  | false => simp
  | true =>
    have hl := word_len hw
    simp only [if_true, inb_0 hl.1, chk_true, Option.bind_some, bne, byteAt_first hl.1, last_ix hl, Bool.true_and]
    cases s.head? == some 46 with
    | true => simp
    | false =>
      have h2 : inb ((s.length - 1 : Nat) : Int) s.length = true := by rw [inb_n]; simp; omega
      simp only [Bool.not_false, if_true, h2, chk_true, byteAt_end hl.1, Option.bind_some, Bool.true_and]
      cases s.getLast? == some 46 with
      | true => simp
      | false =>
        have h3 : decide (s.length < 4294967281) = true := by simp; omega
        simp only [Bool.not_false, if_true, lib_Contains, h3, chk_true, Option.bind_some, contains_dots, Bool.true_and]
theorem ref29_Valid_L1_eq (s : Str) (hs : s.length ≤ 64) : ∀ (r : Str) (i n : Nat) (p : UInt8), s.drop i = p :: r → r.length < n →
    ref29_Valid_L1 n s ((i + 1 : Nat) : Int) = some (!dots (p :: r)) := by
  intro r
  induction r with
  | nil =>
    intro i n p hd hn
    obtain ⟨n, rfl⟩ : ∃ k, n = k + 1 := ⟨n - 1, by simp at hn; omega⟩
    have := drop_nil (drop_more hd).2.2
    simp [ref29_Valid_L1, show ¬ ((i : Int) + 1 < s.length) by omega, dots]
  | cons u r ih =>
    intro i n p hd hn
    obtain ⟨n, rfl⟩ : ∃ k, n = k + 1 := ⟨n - 1, by simp at hn; omega⟩
    obtain ⟨g1, g2, g3⟩ := drop_more hd
    obtain ⟨h1, h2, h3⟩ := drop_more g3
    have hlt := drop_lt g3
    have ih' := ih (i + 1) n u g3 (by simp at hn; omega)
    have e : IntKind.i64.wrap (((i + 1 : Nat) : Int) - 1) = (i : Int) := by rw [w64 (by omega) (by omega)]; omega
    simp only [ref29_Valid_L1, show (((i + 1 : Nat) : Int) < s.length) by omega, decide_true, if_true, inb_n, h1, g1, chk_true, byteAt_some h2, e, byteAt_some g2, w64n (show i + 1 < 9223372036854775807 by omega), ih', u8_46, Option.bind_some]
    have hd : dots (p :: u :: r) = ((p == 46 && u == 46) || dots (u :: r)) := rfl
    rw [hd]
    generalize dots (u :: r) = q
    cases u == 46 <;> cases p == 46 <;> simp
theorem ref29_Valid_eq (s : Str) (hs : fits s) : ref29_Valid s = some (valid s) := by
  unfold ref29_Valid valid
  rw [ref01_Word_eq s hs, Option.bind_some]
  cases hw : word s with
  | false => simp
  | true =>
    have hl := word_len hw
    have h2 : inb ((s.length - 1 : Nat) : Int) s.length = true := by rw [inb_n]; simp; omega
    simp only [Bool.not_true, Bool.false_eq_true, if_false, inb_0 hl.1, chk_true, Option.bind_some, byteAt_first hl.1, last_ix hl, Bool.true_and, h2, byteAt_end hl.1]
    cases s.head? == some 46 with
    | true => simp
    | false =>
      simp only [Bool.false_eq_true, if_false, Option.bind_some]
      cases s.getLast? == some 46 with
      | true => simp
      | false =>
        obtain ⟨p, r, rfl⟩ : ∃ p r, s = p :: r := by
          cases s with
          | nil => simp at hl
          | cons p r => exact ⟨p, r, rfl⟩
        have := ref29_Valid_L1_eq (p :: r) hl.2 r 0 fuel p rfl (by simp at hl; unfold fuel; omega)
        simpa using this
/-- where a string is first found -/
def ixOf (v : Str) : Nat → List Str → Int
  | _, [] => -1
  | i, x :: r => if v == x then i else ixOf v (i + 1) r
theorem slices_Index_eq (l : List Str) (v : Str) (hl : fits l) : slices_Index_string_string l v = some (ixOf v 0 l) := by
  have key : ∀ (r : List Str) (i n : Nat), l.drop i = r → i ≤ l.length → r.length < n →
      slices_Index_string_string_L1 n l v (l.length : Int) (i : Int) = some (ixOf v i r) := by
    intro r
    induction r with
    | nil =>
      intro i n hd hi hn
      obtain ⟨n, rfl⟩ : ∃ k, n = k + 1 := ⟨n - 1, by simp at hn; omega⟩
      have := drop_nil hd
      simp [slices_Index_string_string_L1, show ¬ ((i : Int) < l.length) by omega, ixOf]
    | cons x r ih =>
      intro i n hd hi hn
      obtain ⟨n, rfl⟩ : ∃ k, n = k + 1 := ⟨n - 1, by simp at hn; omega⟩
      obtain ⟨h1, h2, h3⟩ := drop_more hd
      have hlt := drop_lt hd
      have := hl; unfold fits at this
      simp only [slices_Index_string_string_L1, show ((i : Int) < l.length) by omega, decide_true, if_true, idx_n, h2, Option.bind_some, w64n (show i < 9223372036854775807 by omega), ih (i + 1) n h3 (by omega) (by simp at hn; omega), ixOf]
      cases v == x <;> simp
  exact key l 0 fuel rfl (by omega) (fuel_pos hl)
theorem ixOf_pos (v : Str) : ∀ (r : List Str) (i : Nat), decide (ixOf v i r ≥ 0) = r.contains v
  | [], _ => by simp [ixOf]
  | x :: r, i => by
    unfold ixOf
    rw [List.contains_cons]
    cases h : v == x with
    | true => simp
    | false => simpa using ixOf_pos v r (i + 1)
theorem slices_Contains_eq (l : List Str) (v : Str) (hl : fits l) : slices_Contains_string_string l v = some (l.contains v) := by
  simp only [slices_Contains_string_string, slices_Index_eq l v hl, Option.bind_some, ixOf_pos]
/-- the first error of a list of scopes, p being those before -/
def ckL : List Str → List Str → Int
  | _, [] => 0
  | p, x :: r => if !valid x then 5 else if p.contains x then 7 else ckL (p ++ [x]) r
def ck (l : List Str) : Int := if decide ((l.length : Int) > 16) then 3 else ckL [] l
/-- each string can be held -/
def fitsAll (l : List Str) : Prop := ∀ s ∈ l, fits s
theorem fitsAll_at {l : List Str} (h : fitsAll l) {i : Nat} {x : Str} (hx : l[i]? = some x) : fits x := h x (List.mem_of_getElem? hx)
theorem take_len {T : Type} {l : List T} {i : Nat} (h : i < l.length) : (l.take i).length = i := by simp; omega
theorem scope_Check_eq (l : List Str) (hl : fitsAll l) : scope_Check l = some (ck l) := by
  unfold scope_Check ck
  by_cases h16 : (l.length : Int) > 16
  · simp [h16]
  · simp only [h16, decide_false, Bool.false_eq_true, if_false]
    have key : ∀ (r : List Str) (i n : Nat), l.drop i = r → i ≤ l.length → r.length < n → scope_Check_L1 n l l (l.length : Int) (i : Int) = some (ckL (l.take i) r) := by
      intro r
      induction r with
      | nil =>
        intro i n hd hi hn
        obtain ⟨n, rfl⟩ : ∃ k, n = k + 1 := ⟨n - 1, by simp at hn; omega⟩
        have := drop_nil hd
        simp [scope_Check_L1, show ¬ ((i : Int) < l.length) by omega, ckL]
      | cons x r ih =>
        intro i n hd hi hn
        obtain ⟨n, rfl⟩ : ∃ k, n = k + 1 := ⟨n - 1, by simp at hn; omega⟩
        obtain ⟨h1, h2, h3⟩ := drop_more hd
        have hlt := drop_lt hd
        have hi' : inc 0 (i : Int) l.length = true := by rw [inc_0]; simp; omega
        have hft : fits (l.take i) := by unfold fits; rw [take_len hlt]; omega
        simp only [scope_Check_L1, show ((i : Int) < l.length) by omega, decide_true, if_true, idx_n, h2, Option.bind_some, scope_valid_eq x (fitsAll_at hl h2), hi', chk_true, cut_0, slices_Contains_eq _ _ hft, w64n (show i < 9223372036854775807 by omega), ih (i + 1) n h3 (by omega) (by simp at hn; omega), ckL, take_more hd]
        cases valid x <;> cases (l.take i).contains x <;> simp
    exact key l 0 fuel rfl (by omega) (by unfold fuel; omega)
theorem ref29_Check_eq (l : List Str) (hl : fitsAll l) : ref29_Check l = some (ck l) := by
  unfold ref29_Check ck
  by_cases h16 : (l.length : Int) > 16
  · simp [h16]
  · simp only [h16, decide_false, Bool.false_eq_true, if_false]
    have inner : ∀ (r0 : List Str → Int → Option Int) (i : Nat) (x : Str), l[i]? = some x → ∀ (q : List Str) (k n : Nat), (l.take i).drop k = q → k ≤ i → q.length < n →
        ref29_Check_L2 r0 n l (i : Int) (k : Int) = if q.contains x then some 7 else r0 l ((i + 1 : Nat) : Int) := by
      intro r0 i x hx q
      have hlt : i < l.length := (List.getElem?_eq_some_iff.1 hx).1
      have htl := take_len hlt
      induction q with
      | nil =>
        intro k n hd hk hn
        obtain ⟨n, rfl⟩ : ∃ k, n = k + 1 := ⟨n - 1, by simp at hn; omega⟩
        have := drop_nil hd
        simp only [ref29_Check_L2, show ¬ ((k : Int) < i) by omega, decide_false, Bool.false_eq_true, if_false, w64n (show i < 9223372036854775807 by omega)]
        simp
      | cons y q ih =>
        intro k n hd hk hn
        obtain ⟨n, rfl⟩ : ∃ k, n = k + 1 := ⟨n - 1, by simp at hn; omega⟩
        obtain ⟨h1, h2, h3⟩ := drop_more hd
        have hkl := drop_lt hd
        have h2' : l[k]? = some y := by rw [List.getElem?_take_of_lt (by omega)] at h2; exact h2
        simp only [ref29_Check_L2, show ((k : Int) < i) by omega, decide_true, if_true, idx_n, h2', hx, Option.bind_some, w64n (show k < 9223372036854775807 by omega), ih (k + 1) n h3 (by omega) (by simp at hn; omega), List.contains_cons]
        rw [Bool.beq_comm (a := x) (b := y)]
        cases h : y == x <;> simp [h]
    have key : ∀ (r : List Str) (i n : Nat), l.drop i = r → i ≤ l.length → r.length < n → ref29_Check_L1 n l (i : Int) = some (ckL (l.take i) r) := by
      intro r
      induction r with
      | nil =>
        intro i n hd hi hn
        obtain ⟨n, rfl⟩ : ∃ k, n = k + 1 := ⟨n - 1, by simp at hn; omega⟩
        have := drop_nil hd
        simp [ref29_Check_L1, show ¬ ((i : Int) < l.length) by omega, ckL]
      | cons x r ih =>
        intro i n hd hi hn
        obtain ⟨n, rfl⟩ : ∃ k, n = k + 1 := ⟨n - 1, by simp at hn; omega⟩
        obtain ⟨h1, h2, h3⟩ := drop_more hd
        have hlt := drop_lt hd
        have hin := inner (ref29_Check_L1 n) i x h2 (l.take i) 0 fuel rfl (by omega) (by rw [take_len hlt]; unfold fuel; omega)
        simp only [ref29_Check_L1, show ((i : Int) < l.length) by omega, decide_true, if_true, idx_n, h2, Option.bind_some, ref29_Valid_eq x (fitsAll_at hl h2), ckL]
        have hin' : ref29_Check_L2 (ref29_Check_L1 n) fuel l (i : Int) 0 = if (l.take i).contains x then some 7 else ref29_Check_L1 n l ((i + 1 : Nat) : Int) := hin
        rw [hin', ih (i + 1) n h3 (by omega) (by simp at hn; omega), take_more hd]
        cases valid x <;> cases (l.take i).contains x <;> simp
    exact key l 0 fuel rfl (by omega) (by unfold fuel; omega)
theorem ckL_ok {l : List Str} : ∀ p : List Str, ckL p l = 0 → ∀ s ∈ l, valid s = true := by
  induction l with
  | nil => intro p _ s hs; cases hs
  | cons x r ih =>
    intro p h s hs
    unfold ckL at h
    cases hv : valid x with
    | false => simp [hv] at h
    | true =>
      simp only [hv, Bool.not_true, Bool.false_eq_true, if_false] at h
      split at h
      · cases h
      · rcases List.mem_cons.1 hs with rfl | hs
        · exact hv
        · exact ih _ h s hs
theorem valid_word {s : Str} (h : valid s = true) : word s = true := by simp only [valid, Bool.and_eq_true] at h; exact h.1.1.1
theorem ck_ok {l : List Str} (h : ck l = 0) : l.length ≤ 16 ∧ ckL [] l = 0 := by
  unfold ck at h
  by_cases h16 : (l.length : Int) > 16
  · simp [h16] at h
  · simp only [h16, decide_false, Bool.false_eq_true, if_false] at h
    exact ⟨by omega, h⟩
/-! ### one scope within another -/
def pre (a b : Str) : Bool := decide (b.length > a.length) && (b.take (a.length + 1) == a ++ [46])
def imp (a b : Str) : Bool := (valid a && valid b) && (a == b || pre a b)
theorem valid_len {s : Str} (h : valid s = true) : 1 ≤ s.length ∧ s.length ≤ 64 := word_len (valid_word h)
theorem pre_prefix (a b : Str) (hl : a.length ≤ 64) (hb : b.length ≤ 64) : strings_HasPrefix b (a ++ [46]) = some (pre a b) := by
  have e : (a ++ [46]).length = a.length + 1 := by simp
  unfold strings_HasPrefix internal_stringslite_HasPrefix pre
  rw [e]
  by_cases h : b.length > a.length
  · have h1 : inc 0 ((a.length + 1 : Nat) : Int) b.length = true := by rw [inc_0]; simp; omega
    simp only [show ((b.length : Int) ≥ ((a.length + 1 : Nat) : Int)) by omega, decide_true, if_true, h1, chk_true, cut_0, Option.bind_some, h, Bool.true_and]
  · have h0 : decide ((b.length : Int) ≥ ((a.length + 1 : Nat) : Int)) = false := by simp; omega
    simp only [h0, Bool.false_eq_true, if_false, Option.bind_some, h, decide_false, Bool.false_and]
theorem scope_Implies_eq (a b : Str) (ha : fits a) (hb : fits b) : scope_Implies a b = some (imp a b) := by
  unfold scope_Implies imp
  rw [scope_valid_eq a ha, scope_valid_eq b hb, Option.bind_some]
  cases va : valid a with
  | false => simp
  | true =>
    cases vb : valid b with
    | false => simp
    | true =>
      have la := valid_len va
      have lb := valid_len vb
      have hf : fitS a [46] = true := by simp [fitS]; omega
      simp only [if_true, Option.bind_some, Bool.true_and, hf, chk_true, pre_prefix a b la.2 lb.2]
      cases a == b <;> simp
theorem ref29_Implies_eq (a b : Str) (ha : fits a) (hb : fits b) : ref29_Implies a b = some (imp a b) := by
  unfold ref29_Implies imp
  rw [ref29_Valid_eq a ha, ref29_Valid_eq b hb, Option.bind_some]
  cases va : valid a with
  | false => simp
  | true =>
    cases vb : valid b with
    | false => simp
    | true =>
      have la := valid_len va
      have lb := valid_len vb
      have hf : fitS a [46] = true := by simp [fitS]; omega
      simp only [if_true, Option.bind_some, Bool.true_and, hf, chk_true, w64n (show a.length < 9223372036854775807 by omega), cut_0, pre]
      cases a == b with
      | true => simp
      | false =>
        by_cases h : b.length > a.length
        · have h1 : inc 0 ((a.length + 1 : Nat) : Int) b.length = true := by rw [inc_0]; simp; omega
          simp only [Bool.false_eq_true, if_false, show ((b.length : Int) > (a.length : Int)) by omega, decide_true, if_true, h1, chk_true, Option.bind_some, h, Bool.true_and, Bool.false_or]
        · simp [show ¬ ((b.length : Int) > (a.length : Int)) by omega, h]

def cov (l : List Str) (s : Str) : Bool := l.any fun t => imp t s
def within (a b : List Str) : Bool := a.all fun x => cov b x
/-- few enough strings that can be held -/
def sm (l : List Str) : Prop := l.length ≤ 1000 ∧ fitsAll l
theorem sm.at {l : List Str} (h : sm l) {i : Nat} {x : Str} (hx : l[i]? = some x) : fits x := fitsAll_at h.2 hx
theorem scope_covered_eq (s : Str) (l : List Str) (hs : fits s) (hl : sm l) : scope_covered s l = some (cov l s) := by
  have key : ∀ (r : List Str) (i n : Nat), l.drop i = r → i ≤ l.length → r.length < n → scope_covered_L1 n s l (l.length : Int) (i : Int) = some (r.any fun t => imp t s) := by
    have := hl.1
    intro r
    induction r with
    | nil =>
      intro i n hd hi hn
      obtain ⟨n, rfl⟩ : ∃ k, n = k + 1 := ⟨n - 1, by simp at hn; omega⟩
      have := drop_nil hd
      simp [scope_covered_L1, show ¬ ((i : Int) < l.length) by omega]
    | cons x r ih =>
      intro i n hd hi hn
      obtain ⟨n, rfl⟩ : ∃ k, n = k + 1 := ⟨n - 1, by simp at hn; omega⟩
      obtain ⟨h1, h2, h3⟩ := drop_more hd
      have hlt := drop_lt hd
      simp only [scope_covered_L1, show ((i : Int) < l.length) by omega, decide_true, if_true, idx_n, h2, Option.bind_some, scope_Implies_eq x s (hl.at h2) hs, w64n (show i < 9223372036854775807 by omega), ih (i + 1) n h3 (by omega) (by simp at hn; omega), List.any_cons]
      cases imp x s <;> simp
  exact key l 0 fuel rfl (by omega) (by have := hl.1; unfold fuel; omega)
theorem ref29_covers_eq (l : List Str) (s : Str) (hl : sm l) (hs : fits s) : ref29_covers l s = some (cov l s) := by
  have key : ∀ (r : List Str) (i n : Nat), l.drop i = r → i ≤ l.length → r.length < n → ref29_covers_L1 n l s (i : Int) = some (r.any fun t => imp t s) := by
    have := hl.1
    intro r
    induction r with
    | nil =>
      intro i n hd hi hn
      obtain ⟨n, rfl⟩ : ∃ k, n = k + 1 := ⟨n - 1, by simp at hn; omega⟩
      have := drop_nil hd
      simp [ref29_covers_L1, show ¬ ((i : Int) < l.length) by omega]
    | cons x r ih =>
      intro i n hd hi hn
      obtain ⟨n, rfl⟩ : ∃ k, n = k + 1 := ⟨n - 1, by simp at hn; omega⟩
      obtain ⟨h1, h2, h3⟩ := drop_more hd
      have hlt := drop_lt hd
      simp only [ref29_covers_L1, show ((i : Int) < l.length) by omega, decide_true, if_true, idx_n, h2, Option.bind_some, ref29_Implies_eq x s (hl.at h2) hs, w64n (show i < 9223372036854775807 by omega), ih (i + 1) n h3 (by omega) (by simp at hn; omega), List.any_cons]
      cases imp x s <;> simp
  exact key l 0 fuel rfl (by omega) (by have := hl.1; unfold fuel; omega)
theorem scope_Within_eq (a b : List Str) (ha : sm a) (hb : sm b) : scope_Within a b = some (within a b) := by
  have key : ∀ (r : List Str) (i n : Nat), a.drop i = r → i ≤ a.length → r.length < n → scope_Within_L1 n b a (a.length : Int) (i : Int) = some (r.all fun x => cov b x) := by
    have := ha.1
    intro r
    induction r with
    | nil =>
      intro i n hd hi hn
      obtain ⟨n, rfl⟩ : ∃ k, n = k + 1 := ⟨n - 1, by simp at hn; omega⟩
      have := drop_nil hd
      simp [scope_Within_L1, show ¬ ((i : Int) < a.length) by omega]
    | cons x r ih =>
      intro i n hd hi hn
      obtain ⟨n, rfl⟩ : ∃ k, n = k + 1 := ⟨n - 1, by simp at hn; omega⟩
      obtain ⟨h1, h2, h3⟩ := drop_more hd
      have hlt := drop_lt hd
      simp only [scope_Within_L1, show ((i : Int) < a.length) by omega, decide_true, if_true, idx_n, h2, Option.bind_some, scope_covered_eq x b (ha.at h2) hb, w64n (show i < 9223372036854775807 by omega), ih (i + 1) n h3 (by omega) (by simp at hn; omega), List.all_cons]
      cases cov b x <;> simp
  exact key a 0 fuel rfl (by omega) (by have := ha.1; unfold fuel; omega)
theorem ref29_Within_eq (a b : List Str) (ha : sm a) (hb : sm b) : ref29_Within a b = some (within a b) := by
  have key : ∀ (r : List Str) (i n : Nat), a.drop i = r → i ≤ a.length → r.length < n → ref29_Within_L1 n a b (i : Int) = some (r.all fun x => cov b x) := by
    have := ha.1
    intro r
    induction r with
    | nil =>
      intro i n hd hi hn
      obtain ⟨n, rfl⟩ : ∃ k, n = k + 1 := ⟨n - 1, by simp at hn; omega⟩
      have := drop_nil hd
      simp [ref29_Within_L1, show ¬ ((i : Int) < a.length) by omega]
    | cons x r ih =>
      intro i n hd hi hn
      obtain ⟨n, rfl⟩ : ∃ k, n = k + 1 := ⟨n - 1, by simp at hn; omega⟩
      obtain ⟨h1, h2, h3⟩ := drop_more hd
      have hlt := drop_lt hd
      simp only [ref29_Within_L1, show ((i : Int) < a.length) by omega, decide_true, if_true, idx_n, h2, Option.bind_some, ref29_covers_eq b x hb (ha.at h2), w64n (show i < 9223372036854775807 by omega), ih (i + 1) n h3 (by omega) (by simp at hn; omega), List.all_cons]
      cases cov b x <;> simp
  exact key a 0 fuel rfl (by omega) (by have := ha.1; unfold fuel; omega)
theorem ref03_Same_eq (a b : List Str) (ha : fits a) : ref03_Same a b = some (a == b) := by
  unfold ref03_Same
  by_cases hlen : a.length = b.length
  · have h0 : ((a.length : Int) != (b.length : Int)) = false := by simp [hlen]
    simp only [h0, Bool.false_eq_true, if_false]
    have key : ∀ (r q : List Str) (i n : Nat), a.drop i = r → b.drop i = q → i ≤ a.length → r.length < n → ref03_Same_L1 n a b (i : Int) = some (r == q) := by
      unfold fits at ha
      intro r
      induction r with
      | nil =>
        intro q i n hd hq hi hn
        obtain ⟨n, rfl⟩ : ∃ k, n = k + 1 := ⟨n - 1, by simp at hn; omega⟩
        have := drop_nil hd
        have hq' : q = [] := by rw [← hq]; simp; omega
        subst hq'
        simp [ref03_Same_L1, show ¬ ((i : Int) < a.length) by omega]
      | cons x r ih =>
        intro q i n hd hq hi hn
        obtain ⟨n, rfl⟩ : ∃ k, n = k + 1 := ⟨n - 1, by simp at hn; omega⟩
        obtain ⟨h1, h2, h3⟩ := drop_more hd
        have hlt := drop_lt hd
        cases q with
        | nil => have := drop_nil hq; omega
        | cons y q =>
          obtain ⟨g1, g2, g3⟩ := drop_more hq
          simp only [ref03_Same_L1, show ((i : Int) < a.length) by omega, decide_true, if_true, idx_n, h2, g2, Option.bind_some, w64n (show i < 9223372036854775807 by omega), ih q (i + 1) n h3 g3 (by omega) (by simp at hn; omega), List.cons_beq_cons]
          cases x == y <;> simp
    exact key a b 0 fuel rfl rfl (by omega) (fuel_pos ha)
  · have h0 : ((a.length : Int) != (b.length : Int)) = true := by simp; omega
    have h1 : (a == b) = false := by
      rw [Bool.eq_false_iff]; intro h; exact hlen (by rw [eq_of_beq h])
    simp [h0, h1]
/-! ### the sorted form -/
theorem str_lt_iff {x y : Str} : x < y ↔ ¬ y ≤ x := by
  constructor
  · intro h h'; exact str_not_lt.2 h' h
  · intro h
    rcases Decidable.em (x < y) with h1 | h1
    · exact h1
    · exact absurd (str_not_lt.1 h1) h
theorem str_lt_trans {x y z : Str} (h : x < y) (h' : y < z) : x < z := by
  rw [str_lt_iff] at *
  intro hz
  rcases str_le_total y z with h1 | h1
  · exact h (str_le_trans h1 hz)
  · exact h' h1
theorem str_lt_irrefl (x : Str) : ¬ x < x := fun h => str_lt_iff.1 h (by rcases str_le_total x x with h | h <;> exact h)
theorem str_lt_le {x y : Str} (h : x < y) : x ≤ y := by
  rcases str_le_total x y with h1 | h1
  · exact h1
  · exact absurd h1 (str_lt_iff.1 h)
theorem str_lt_of {x y : Str} (h : x ≤ y) (hn : x ≠ y) : x < y := str_lt_iff.2 fun h' => hn (str_le_antisymm h h')
/-- strictly ascending -/
def asc (l : List Str) : Prop := l.Pairwise (· < ·)
theorem asc_unique : ∀ {a b : List Str}, asc a → asc b → (∀ x, x ∈ a ↔ x ∈ b) → a = b := by
  intro a b ha hb h
  have na : a.Nodup := ha.imp (fun {x y} (h : x < y) (e : x = y) => str_lt_irrefl x (by rw [← e] at h; exact h))
  have nb : b.Nodup := hb.imp (fun {x y} (h : x < y) (e : x = y) => str_lt_irrefl x (by rw [← e] at h; exact h))
  exact sorted_unique ((List.perm_ext_iff_of_nodup na nb).2 h) (ha.imp str_lt_le) (hb.imp str_lt_le)
theorem sortS_asc {l : List Str} (h : l.Nodup) : asc (sortS l) := by
  have h1 := sortS_sorted l
  have h2 : (sortS l).Nodup := (sortS_perm l).nodup_iff.2 h
  exact (h1.and h2).imp fun h => str_lt_of h.1 h.2

/-- a scope of the list that no other one includes -/
def least (l : List Str) (x : Str) : Bool := valid x && l.all fun t => t == x || !imp t x
def sel (l : List Str) : List Str → List Str → List Str
  | _, [] => []
  | p, x :: r => if !valid x || p.contains x then sel l (p ++ [x]) r else if l.any (fun t => !(t == x) && imp t x) then sel l (p ++ [x]) r else x :: sel l (p ++ [x]) r
def sorted (l : List Str) : List Str := sortS (sel l [] l)
theorem least_any (l : List Str) (x : Str) : (l.all fun t => t == x || !imp t x) = !(l.any (fun t => !(t == x) && imp t x)) := by
  induction l with
  | nil => rfl
  | cons y l ih => simp only [List.all_cons, List.any_cons, ih]; cases y == x <;> cases imp y x <;> simp
theorem mem_sel (l : List Str) (x : Str) : ∀ (r p : List Str), x ∈ sel l p r ↔ x ∈ r ∧ x ∉ p ∧ least l x = true := by
  intro r
  induction r with
  | nil => intro p; simp [sel]
  | cons y r ih =>
    intro p
    have hc : p.contains y = true ↔ y ∈ p := by simp
    unfold sel
    by_cases h1 : (!valid y || p.contains y) = true
    · rw [if_pos h1, ih]
      simp only [List.mem_append, List.mem_cons, List.not_mem_nil, or_false, not_or]
      constructor
      · rintro ⟨a, ⟨b, c⟩, d⟩; exact ⟨.inr a, b, d⟩
      · rintro ⟨a, b, d⟩
        have hne : ¬ x = y := by
          rintro rfl
          simp only [Bool.or_eq_true, Bool.not_eq_true'] at h1
          rcases h1 with h1 | h1
          · unfold least at d; rw [h1] at d; simp at d
          · exact b (hc.1 h1)
        exact ⟨a.resolve_left hne, ⟨b, hne⟩, d⟩
    · rw [if_neg h1]
      by_cases h2 : l.any (fun t => !(t == y) && imp t y) = true
      · rw [if_pos h2, ih]
        simp only [List.mem_append, List.mem_cons, List.not_mem_nil, or_false, not_or]
        constructor
        · rintro ⟨a, ⟨b, c⟩, d⟩; exact ⟨.inr a, b, d⟩
        · rintro ⟨a, b, d⟩
          have hne : ¬ x = y := by
            rintro rfl
            unfold least at d; rw [least_any, h2] at d; simp at d
          exact ⟨a.resolve_left hne, ⟨b, hne⟩, d⟩
      · rw [if_neg h2, List.mem_cons, ih]
        simp only [Bool.or_eq_true, Bool.not_eq_true', not_or, Bool.not_eq_false] at h1
        have hy : y ∉ p := fun h => h1.2 (hc.2 h)
        have hl : least l y = true := by unfold least; rw [least_any, h1.1]; simp at h2 ⊢; exact h2
        simp only [List.mem_append, List.mem_cons, List.not_mem_nil, or_false, not_or]
        constructor
        · rintro (rfl | ⟨a, ⟨b, c⟩, d⟩)
          · exact ⟨.inl rfl, hy, hl⟩
          · exact ⟨.inr a, b, d⟩
        · rintro ⟨a, b, d⟩
          by_cases e : x = y
          · exact .inl e
          · exact .inr ⟨a.resolve_left e, ⟨b, e⟩, d⟩
theorem nodup_sel (l : List Str) : ∀ (r p : List Str), (sel l p r).Nodup := by
  intro r
  induction r with
  | nil => intro p; exact List.nodup_nil
  | cons y r ih =>
    intro p
    unfold sel
    split
    · exact ih _
    · split
      · exact ih _
      · refine List.nodup_cons.2 ⟨fun h => ?_, ih _⟩
        have := ((mem_sel l y r _).1 h).2.1
        simp at this
theorem sel_len (l : List Str) : ∀ (r p : List Str), (sel l p r).length ≤ r.length := by
  intro r
  induction r with
  | nil => intro p; simp [sel]
  | cons y r ih =>
    intro p
    unfold sel
    have := ih (p ++ [y])
    split
    · simp; omega
    · split <;> simp <;> omega
theorem mem_sorted (l : List Str) (x : Str) : x ∈ sorted l ↔ x ∈ l ∧ least l x = true := by
  unfold sorted
  rw [(sortS_perm _).mem_iff, mem_sel]; simp
theorem sorted_asc (l : List Str) : asc (sorted l) := sortS_asc (nodup_sel l l [])
theorem sorted_sm {l : List Str} (h : sm l) : sm (sorted l) := by
  refine ⟨?_, fun s hs => h.2 s ((mem_sorted l s).1 hs).1⟩
  have := sel_len l l []
  unfold sorted
  rw [(sortS_perm _).length_eq]; have := h.1; omega

theorem br3 {α : Type} (a b c : Bool) (p q : Option α) : ((if (!a) = true then some b else some false).bind fun z => if z = true then p else if c = true then p else q) = if (!a && b || c) = true then p else q := by
  cases a <;> cases b <;> cases c <;> rfl
theorem scope_Sorted_eq (l : List Str) (hl : sm l) : scope_Sorted l = some (sorted l) := by
  have h1000 := hl.1
  have inner : ∀ (r0 : List Str → List Str → List Str → Int → Int → Option (List Str)) (out : List Str) (x : Str) (i : Nat), out.length ≤ 1000 → i < l.length → fits x →
      ∀ (q : List Str) (k n : Nat), l.drop k = q → k ≤ l.length → q.length < n →
      scope_Sorted_L3 r0 n l out x l (l.length : Int) (i : Int) l (l.length : Int) (k : Int) =
        if q.any (fun t => !(t == x) && imp t x) then r0 l out l (l.length : Int) ((i + 1 : Nat) : Int) else r0 l (out ++ [x]) l (l.length : Int) ((i + 1 : Nat) : Int) := by
    intro r0 out x i ho hi hx q
    induction q with
    | nil =>
      intro k n hd hk hn
      obtain ⟨n, rfl⟩ : ∃ k, n = k + 1 := ⟨n - 1, by simp at hn; omega⟩
      have := drop_nil hd
      have hf : fitL out.length ([x] : List Str).length = true := by simp [fitL]; omega
      rw [scope_Sorted_L3]
      simp only [show ¬ ((k : Int) < l.length) by omega, decide_false, Bool.false_eq_true, if_false, hf, chk_true, scope_Sorted_B2, w64n (show i < 9223372036854775807 by omega), List.any_nil]
    | cons y q ih =>
      intro k n hd hk hn
      obtain ⟨n, rfl⟩ : ∃ k, n = k + 1 := ⟨n - 1, by simp at hn; omega⟩
      obtain ⟨h1, h2, h3⟩ := drop_more hd
      have hlt := drop_lt hd
      rw [scope_Sorted_L3]
      simp only [show ((k : Int) < l.length) by omega, decide_true, if_true, idx_n, h2, Option.bind_some, scope_Implies_eq y x (hl.at h2) hx, w64n (show k < 9223372036854775807 by omega), w64n (show i < 9223372036854775807 by omega), ih (k + 1) n h3 (by omega) (by simp at hn; omega), List.any_cons, scope_Sorted_B2]
      exact br3 _ _ _ _ _
  have key : ∀ (r : List Str) (i n : Nat) (out : List Str), l.drop i = r → i ≤ l.length → out.length ≤ i → r.length < n →
      scope_Sorted_L1 n l out l (l.length : Int) (i : Int) = some (sortS (out ++ sel l (l.take i) r)) := by
    intro r
    induction r with
    | nil =>
      intro i n out hd hi ho hn
      obtain ⟨n, rfl⟩ : ∃ k, n = k + 1 := ⟨n - 1, by simp at hn; omega⟩
      have := drop_nil hd
      have hs : decide (out.length < 4611686018427387904) = true := by simp; omega
      simp only [scope_Sorted_L1, show ¬ ((i : Int) < l.length) by omega, decide_false, Bool.false_eq_true, if_false, lib_Sort, hs, chk_true, Option.bind_some, sel, List.append_nil]
    | cons x r ih =>
      intro i n out hd hi ho hn
      obtain ⟨n, rfl⟩ : ∃ k, n = k + 1 := ⟨n - 1, by simp at hn; omega⟩
      obtain ⟨h1, h2, h3⟩ := drop_more hd
      have hlt := drop_lt hd
      have hi' : inc 0 (i : Int) l.length = true := by rw [inc_0]; simp; omega
      have hft : fits (l.take i) := by unfold fits; rw [take_len hlt]; omega
      have hin := inner (scope_Sorted_L1 n) out x i (by omega) hlt (hl.at h2) l 0 fuel rfl (by omega) (by unfold fuel; omega)
      have hin' : scope_Sorted_L3 (scope_Sorted_L1 n) fuel l out x l (l.length : Int) (i : Int) l (l.length : Int) 0 = _ := hin
      have e1 := ih (i + 1) n out h3 (by omega) (by omega) (by simp at hn; omega)
      have e2 := ih (i + 1) n (out ++ [x]) h3 (by omega) (by simp; omega) (by simp at hn; omega)
      simp only [scope_Sorted_L1, show ((i : Int) < l.length) by omega, decide_true, if_true, idx_n, h2, Option.bind_some, scope_valid_eq x (hl.at h2), hi', chk_true, cut_0, slices_Contains_eq _ _ hft, hin', scope_Sorted_B2, w64n (show i < 9223372036854775807 by omega), e1, e2, sel, take_more hd]
      cases valid x <;> cases (l.take i).contains x <;> cases l.any (fun t => !(t == x) && imp t x) <;> simp
  have := key l 0 fuel [] rfl (by omega) (by simp) (by unfold fuel; omega)
  simpa [scope_Sorted, sorted] using this
/-! ### the specification's sorted form -/
def insF (s : Str) : Bool → List Str → List Str
  | d, [] => if !d then [s] else []
  | d, y :: r => (if !d && !sLt y s then [s] else []) ++ ((if !(y == s) then [y] else []) ++ insF s (d || !sLt y s) r)
theorem insF_true (s : Str) : ∀ l : List Str, insF s true l = l.filter fun y => !(y == s)
  | [] => rfl
  | y :: r => by
    unfold insF
    rw [Bool.true_or, insF_true s r, List.filter_cons]
    cases y == s <;> simp
theorem insF_false (s : Str) : ∀ l : List Str, asc l → asc (insF s false l) ∧ ∀ x, x ∈ insF s false l ↔ x = s ∨ x ∈ l
  | [], _ => by constructor <;> simp [insF, asc]
  | y :: r, h => by
    obtain ⟨h1, h2⟩ := List.pairwise_cons.1 h
    obtain ⟨i1, i2⟩ := insF_false s r h2
    unfold insF
    cases hc : sLt y s with
    | true =>
      have hlt : y < s := by rw [sLt_eq] at hc; exact of_decide_eq_true hc
      have hne : (y == s) = false := by rw [beq_eq_false_iff_ne]; rintro rfl; exact str_lt_irrefl _ hlt
      simp only [Bool.not_true, Bool.and_false, Bool.false_eq_true, if_false, List.nil_append, hne, Bool.not_false, if_true, Bool.or_false, List.singleton_append]
      refine ⟨List.pairwise_cons.2 ⟨fun z hz => ?_, i1⟩, fun x => ?_⟩
      · rcases (i2 z).1 hz with rfl | hz
        · exact hlt
        · exact h1 z hz
      · simp only [List.mem_cons, i2]
        constructor
        · rintro (h | h | h) <;> simp [h]
        · rintro (h | h | h) <;> simp [h]
    | false =>
      have hle : s ≤ y := by
        rw [sLt_eq] at hc; exact str_not_lt.1 (of_decide_eq_false hc)
      simp only [Bool.not_false, Bool.and_true, if_true, Bool.false_or, Bool.or_true, insF_true]
      cases hy : y == s with
      | true =>
        have e : y = s := eq_of_beq hy
        subst e
        have hf : r.filter (fun z => !(z == y)) = r := List.filter_eq_self.2 fun z hz => by
          have := h1 z hz
          simp; rintro rfl; exact str_lt_irrefl _ this
        simp only [Bool.not_true, Bool.false_eq_true, if_false, List.nil_append, hf, List.singleton_append]
        exact ⟨h, fun x => by simp⟩
      | false =>
        have hne : s ≠ y := by rintro rfl; simp at hy
        have hlt : s < y := str_lt_of hle hne
        have hf : r.filter (fun z => !(z == s)) = r := List.filter_eq_self.2 fun z hz => by
          have := str_lt_trans hlt (h1 z hz)
          simp; rintro rfl; exact str_lt_irrefl _ this
        simp only [Bool.not_false, if_true, hf, List.singleton_append]
        refine ⟨List.pairwise_cons.2 ⟨fun z hz => ?_, h⟩, fun x => by simp⟩
        rcases List.mem_cons.1 hz with rfl | hz
        · exact hlt
        · exact str_lt_trans hlt (h1 z hz)
theorem insF_len (s : Str) : ∀ (l : List Str) (d : Bool), (insF s d l).length ≤ l.length + (if d then 0 else 1) ∧ (insF s d l).length ≤ l.length + 1
  | [], d => by cases d <;> simp [insF]
  | y :: r, d => by
    have h1 := insF_len s r true
    have h2 := insF_len s r false
    unfold insF
    cases d <;> cases sLt y s <;> cases y == s <;> simp at h1 h2 ⊢ <;> omega
theorem ref06_Insert_eq (l : List Str) (s : Str) (hl : l.length ≤ 1000) : ref06_Insert l s = some (insF s false l) := by
  have key : ∀ (r : List Str) (i n : Nat) (out : List Str) (d : Bool), l.drop i = r → i ≤ l.length → out.length ≤ i + (if d then 1 else 0) → r.length < n →
      ref06_Insert_L1 n l s out d (i : Int) = some (out ++ insF s d r) := by
    intro r
    induction r with
    | nil =>
      intro i n out d hd hi ho hn
      obtain ⟨n, rfl⟩ : ∃ k, n = k + 1 := ⟨n - 1, by simp at hn; omega⟩
      have := drop_nil hd
      have hf : fitL out.length ([s] : List Str).length = true := by cases d <;> simp [fitL] at ho ⊢ <;> omega
      simp only [ref06_Insert_L1, show ¬ ((i : Int) < l.length) by omega, decide_false, Bool.false_eq_true, if_false, hf, chk_true, ref06_Insert_B4, insF]
      cases d <;> simp
    | cons x r ih =>
      intro i n out d hd hi ho hn
      obtain ⟨n, rfl⟩ : ∃ k, n = k + 1 := ⟨n - 1, by simp at hn; omega⟩
      obtain ⟨h1, h2, h3⟩ := drop_more hd
      have hlt := drop_lt hd
      have hw := w64n (show i < 9223372036854775807 by omega)
      have B2 : ∀ (out : List Str) (d : Bool), out.length ≤ i + (if d then 1 else 0) → ref06_Insert_B2 (ref06_Insert_L1 n) l s out d (i : Int) = some (out ++ ((if !(x == s) then [x] else []) ++ insF s d r)) := by
        intro out d ho
        have hf : fitL out.length ([x] : List Str).length = true := by cases d <;> simp [fitL] at ho ⊢ <;> omega
        have e1 := ih (i + 1) n (out ++ [x]) d h3 (by omega) (by simp; omega) (by simp at hn; omega)
        have e2 := ih (i + 1) n out d h3 (by omega) (by omega) (by simp at hn; omega)
        unfold ref06_Insert_B2 ref06_Insert_B3
        rw [idx_n, h2, Option.bind_some, Option.bind_some, hf, chk_true, hw, e1, e2]
        by_cases he : (!(x == s)) = true
        · rw [if_pos he, if_pos he]; simp
        · rw [if_neg he, if_neg he]; simp
      rw [ref06_Insert_L1, idx_n, h2]
      simp only [show ((i : Int) < l.length) by omega, decide_true, if_true, Option.bind_some]
      cases d with
      | true =>
        rw [B2 out true ho]
        simp [insF]
      | false =>
        have hf : fitL out.length ([s] : List Str).length = true := by simp [fitL] at ho ⊢; omega
        simp only [Bool.not_false, if_true, Option.bind_some, hf, chk_true]
        rw [B2 out false ho, B2 (out ++ [s]) true (by simp at ho ⊢; omega)]
        cases hc : sLt x s <;> simp [insF, hc]
  have := key l 0 fuel [] false rfl (by omega) (by simp) (by unfold fuel; omega)
  simpa [ref06_Insert] using this
theorem ref29_Sorted_eq (l : List Str) (hl : sm l) (h500 : l.length ≤ 500) : ref29_Sorted l = some (sorted l) := by
  have inner : ∀ (r0 : List Str → List Str → Int → Option (List Str)) (out : List Str) (x : Str) (i : Nat), out.length ≤ 1000 → l[i]? = some x → fits x →
      ∀ (q : List Str) (k n : Nat) (b : Bool), l.drop k = q → k ≤ l.length → q.length < n →
      ref29_Sorted_L2 r0 n l out (i : Int) b (k : Int) = if b && q.all (fun t => t == x || !imp t x) then r0 l (insF x false out) ((i + 1 : Nat) : Int) else r0 l out ((i + 1 : Nat) : Int) := by
    intro r0 out x i ho hix hx q
    have hi : i < l.length := (List.getElem?_eq_some_iff.1 hix).1
    induction q with
    | nil =>
      intro k n b hd hk hn
      obtain ⟨n, rfl⟩ : ∃ k, n = k + 1 := ⟨n - 1, by simp at hn; omega⟩
      have := drop_nil hd
      rw [ref29_Sorted_L2]
      simp only [show ¬ ((k : Int) < l.length) by omega, decide_false, Bool.false_eq_true, if_false, idx_n, hix, Option.bind_some, ref06_Insert_eq out x ho, ref29_Sorted_B3, w64n (show i < 9223372036854775807 by omega), List.all_nil, Bool.and_true]
    | cons y q ih =>
      intro k n b hd hk hn
      obtain ⟨n, rfl⟩ : ∃ k, n = k + 1 := ⟨n - 1, by simp at hn; omega⟩
      obtain ⟨h1, h2, h3⟩ := drop_more hd
      have hlt := drop_lt hd
      rw [ref29_Sorted_L2]
      simp only [show ((k : Int) < l.length) by omega, decide_true, if_true, idx_n, h2, hix, Option.bind_some, ref29_Implies_eq y x (hl.at h2) hx, w64n (show k < 9223372036854775807 by omega), List.all_cons]
      have e : (if b = true then (if (y == x) = true then some true else some (!imp y x)).bind fun z44 => some z44 else some false) = some (b && (y == x || !imp y x)) := by
        by_cases hyx : (y == x) = true
        · rw [if_pos hyx, hyx]; cases b <;> rfl
        · rw [if_neg hyx, Bool.eq_false_iff.2 hyx]; cases b <;> cases imp y x <;> rfl
      rw [e, Option.bind_some, ih (k + 1) n _ h3 (by omega) (by simp at hn; omega), Bool.and_assoc]
      rfl
  have key : ∀ (r : List Str) (i n : Nat) (out : List Str), l.drop i = r → i ≤ l.length → out.length ≤ i → r.length < n → asc out → (∀ x, x ∈ out ↔ x ∈ l.take i ∧ least l x = true) →
      ref29_Sorted_L1 n l out (i : Int) = some (sorted l) := by
    intro r
    induction r with
    | nil =>
      intro i n out hd hi ho hn ha hm
      obtain ⟨n, rfl⟩ : ∃ k, n = k + 1 := ⟨n - 1, by simp at hn; omega⟩
      have hle := drop_nil hd
      simp only [ref29_Sorted_L1, show ¬ ((i : Int) < l.length) by omega, decide_false, Bool.false_eq_true, if_false, Option.some.injEq]
      rw [List.take_of_length_le hle] at hm
      exact asc_unique ha (sorted_asc l) fun x => (hm x).trans (mem_sorted l x).symm
    | cons x r ih =>
      intro i n out hd hi ho hn ha hm
      obtain ⟨n, rfl⟩ : ∃ k, n = k + 1 := ⟨n - 1, by simp at hn; omega⟩
      obtain ⟨h1, h2, h3⟩ := drop_more hd
      have hlt := drop_lt hd
      have hin : ref29_Sorted_L2 (ref29_Sorted_L1 n) fuel l out (i : Int) (valid x) 0 = _ := inner (ref29_Sorted_L1 n) out x i (by omega) h2 (hl.at h2) l 0 fuel (valid x) rfl (by omega) (by unfold fuel; omega)
      have hc : (valid x && l.all (fun t => t == x || !imp t x)) = least l x := rfl
      simp only [ref29_Sorted_L1, show ((i : Int) < l.length) by omega, decide_true, if_true, idx_n, h2, Option.bind_some, ref29_Valid_eq x (hl.at h2), hin, hc]
      by_cases hx : least l x = true
      · rw [if_pos hx]
        have hI := insF_false x out ha
        refine ih (i + 1) n _ h3 (by omega) ?_ (by simp at hn; omega) hI.1 fun z => ?_
        · have := (insF_len x out false).2; omega
        · rw [hI.2, take_more hd, hm]
          simp only [List.mem_append, List.mem_cons, List.not_mem_nil, or_false]
          constructor
          · rintro (rfl | h)
            · exact ⟨.inr rfl, hx⟩
            · exact ⟨.inl h.1, h.2⟩
          · rintro ⟨h | h, h'⟩
            · exact .inr ⟨h, h'⟩
            · exact .inl h
      · rw [if_neg hx]
        refine ih (i + 1) n _ h3 (by omega) (by omega) (by simp at hn; omega) ha fun z => ?_
        rw [take_more hd, hm]
        simp only [List.mem_append, List.mem_cons, List.not_mem_nil, or_false]
        constructor
        · rintro ⟨h, h'⟩; exact ⟨.inl h, h'⟩
        · rintro ⟨h | h, h'⟩
          · exact ⟨h, h'⟩
          · subst h; exact absurd h' hx
  have := key l 0 fuel [] rfl (by omega) (by simp) (by unfold fuel; omega) List.Pairwise.nil (by simp)
  simpa [ref29_Sorted] using this
/-! ### the laws of one scope within another -/
theorem pre_iff {a b : Str} : pre a b = true ↔ (a ++ [46]) <+: b := by
  unfold pre
  simp only [Bool.and_eq_true, decide_eq_true_eq, beq_iff_eq]
  rw [List.prefix_iff_eq_take]
  simp only [List.length_append, List.length_singleton]
  constructor
  · rintro ⟨_, h⟩; exact h.symm
  · intro h
    refine ⟨?_, h.symm⟩
    have := congrArg List.length h
    simp at this; omega
theorem imp_iff {a b : Str} : imp a b = true ↔ valid a = true ∧ valid b = true ∧ (a = b ∨ (a ++ [46]) <+: b) := by
  unfold imp
  simp only [Bool.and_eq_true, Bool.or_eq_true, beq_iff_eq, pre_iff, and_assoc]
theorem imp_refl {a : Str} (h : valid a = true) : imp a a = true := imp_iff.2 ⟨h, h, .inl rfl⟩
theorem imp_trans {a b c : Str} (h : imp a b = true) (h' : imp b c = true) : imp a c = true := by
  rw [imp_iff] at *
  obtain ⟨h1, h2, h3⟩ := h
  obtain ⟨_, h5, h6⟩ := h'
  refine ⟨h1, h5, ?_⟩
  rcases h3 with rfl | h3
  · exact h6
  · rcases h6 with rfl | h6
    · exact .inr h3
    · exact .inr (h3.trans ((List.prefix_append b [46]).trans h6))
theorem imp_len {a b : Str} (h : imp a b = true) (hne : a ≠ b) : a.length < b.length := by
  obtain ⟨_, _, h3⟩ := imp_iff.1 h
  have := (h3.resolve_left hne).length_le
  simp at this; omega
theorem cov_iff {l : List Str} {s : Str} : cov l s = true ↔ ∃ t ∈ l, imp t s = true := by simp [cov]
theorem least_iff {l : List Str} {x : Str} : least l x = true ↔ valid x = true ∧ ∀ t ∈ l, imp t x = true → t = x := by
  unfold least
  simp only [Bool.and_eq_true, List.all_eq_true, Bool.or_eq_true, beq_iff_eq, Bool.not_eq_true']
  constructor
  · rintro ⟨h, h'⟩; exact ⟨h, fun t ht hi => (h' t ht).resolve_right (by simp [hi])⟩
  · rintro ⟨h, h'⟩
    refine ⟨h, fun t ht => ?_⟩
    cases hi : imp t x with
    | false => exact .inr rfl
    | true => exact .inl (h' t ht hi)
theorem least_under {l : List Str} {s : Str} : ∀ (n : Nat) (t : Str), t.length ≤ n → t ∈ l → imp t s = true → ∃ u, u ∈ l ∧ imp u s = true ∧ least l u = true := by
  intro n
  induction n with
  | zero =>
    intro t h ht hi
    have := (valid_len (imp_iff.1 hi).1).1; omega
  | succ n ih =>
    intro t h ht hi
    by_cases hl : least l t = true
    · exact ⟨t, ht, hi, hl⟩
    · rw [least_iff] at hl
      have hv := (imp_iff.1 hi).1
      have : ∃ u ∈ l, imp u t = true ∧ u ≠ t := by
        refine Classical.byContradiction fun hn => hl ⟨hv, fun u hu hi => Classical.byContradiction fun he => hn ⟨u, hu, hi, he⟩⟩
      obtain ⟨u, hu, h1, h2⟩ := this
      exact ih u (by have := imp_len h1 h2; omega) hu (imp_trans h1 hi)
theorem cov_sorted (l : List Str) (s : Str) : cov (sorted l) s = cov l s := by
  rw [Bool.eq_iff_iff, cov_iff, cov_iff]
  constructor
  · rintro ⟨t, ht, hi⟩; exact ⟨t, ((mem_sorted l t).1 ht).1, hi⟩
  · rintro ⟨t, ht, hi⟩
    obtain ⟨u, h1, h2, h3⟩ := least_under t.length t (Nat.le_refl _) ht hi
    exact ⟨u, (mem_sorted l u).2 ⟨h1, h3⟩, h2⟩
theorem sorted_congr {l m : List Str} (h : ∀ x, x ∈ l ↔ x ∈ m) : sorted l = sorted m := by
  refine asc_unique (sorted_asc l) (sorted_asc m) fun x => ?_
  rw [mem_sorted, mem_sorted, h, least_iff, least_iff]
  simp only [h]
theorem put_set {K V : Type} [DecidableEq K] {key : K} {r x : V} : ∀ {l : List (K × V)} {k : Nat}, l[k]? = some (key, r) → (∀ q ∈ l.take k, q.1 ≠ key) → mputL key x l = l.set k (key, x)
  | [], k, h, _ => by simp at h
  | p :: l, 0, h, _ => by
    simp at h; subst h
    simp [mputL]
  | p :: l, k + 1, h, ht => by
    have hp := ht p (by simp)
    unfold mputL
    rw [if_neg (fun e => hp e.symm), put_set (k := k) (by simpa using h) (fun q hq => ht q (by simp [hq]))]
    rfl
theorem del_cut {K V : Type} [DecidableEq K] {key : K} {r : V} : ∀ {l : List (K × V)} {k : Nat}, l[k]? = some (key, r) → (∀ q ∈ l.take k, q.1 ≠ key) → mdelL key l = l.take k ++ l.drop (k + 1)
  | [], k, h, _ => by simp at h
  | p :: l, 0, h, _ => by
    simp at h; subst h
    simp [mdelL]
  | p :: l, k + 1, h, ht => by
    have hp := ht p (by simp)
    unfold mdelL
    rw [if_neg (fun e => hp e.symm), del_cut (k := k) (by simpa using h) (fun q hq => ht q (by simp [hq]))]
    rfl
theorem put_none {K V : Type} [DecidableEq K] {key : K} {x : V} : ∀ {l : List (K × V)}, mfind key l = none → mputL key x l = l ++ [(key, x)]
  | [], _ => rfl
  | p :: l, h => by
    unfold mfind at h
    split at h
    · cases h
    · rename_i e
      unfold mputL
      rw [if_neg e, put_none h]; rfl
/-! ### entries in order of their keys -/
theorem insK_sorted {V : Type} (p : Str × V) : ∀ l : List (Str × V), l.Pairwise (fun a b => a.1 ≤ b.1) → (insK p l).Pairwise (fun a b => a.1 ≤ b.1)
  | [], _ => by simp [insK]
  | q :: r, h => by
    obtain ⟨h1, h2⟩ := List.pairwise_cons.1 h
    unfold insK
    rw [sLt_eq]
    by_cases hy : p.1 < q.1
    · rw [if_pos (decide_eq_true hy)]
      have hle : p.1 ≤ q.1 := by
        rcases str_le_total p.1 q.1 with h | h
        · exact h
        · exact absurd hy (str_not_lt.2 h)
      refine List.pairwise_cons.2 ⟨fun z hz => ?_, h⟩
      rcases List.mem_cons.1 hz with rfl | hz
      · exact hle
      · exact str_le_trans hle (h1 z hz)
    · rw [if_neg (by simpa using hy)]
      have hxy : q.1 ≤ p.1 := str_not_lt.1 hy
      refine List.pairwise_cons.2 ⟨fun z hz => ?_, insK_sorted p r h2⟩
      rcases List.mem_cons.1 ((insK_perm p r).mem_iff.1 hz) with rfl | hz
      · exact hxy
      · exact h1 z hz
theorem canonL_sorted {V : Type} : ∀ l : List (Str × V), (canonL l).Pairwise (fun a b => a.1 ≤ b.1)
  | [] => List.Pairwise.nil
  | p :: r => insK_sorted p _ (canonL_sorted r)
theorem canonL_eq {V : Type} {a b : List (Str × V)} (hn : nodupK a) (h : a.Perm b) : canonL a = canonL b := by
  have hp : (canonL a).Perm (canonL b) := (canonL_perm a).trans (h.trans (canonL_perm b).symm)
  refine List.Perm.eq_of_pairwise (fun x y hx hy h1 h2 => ?_) (canonL_sorted a) (canonL_sorted b) hp
  have e := str_le_antisymm h1 h2
  have hx' := (canonL_perm a).mem_iff.1 hx
  have hy' := h.mem_iff.2 ((canonL_perm b).mem_iff.1 hy)
  have f1 := mfind_of_mem hn (show (x.1, x.2) ∈ a from hx')
  have f2 := mfind_of_mem hn (show (y.1, y.2) ∈ a from hy')
  rw [e, f2] at f1
  exact Prod.ext e (Option.some.inj f1).symm
/-! ### maps up to order -/
theorem mfind_perm {V : Type} {a b : List (Str × V)} (hn : nodupK a) (h : a.Perm b) (k : Str) : mfind k a = mfind k b := by
  have hb : nodupK b := (h.map Prod.fst).nodup_iff.1 hn
  cases hf : mfind k a with
  | none =>
    rw [mfind_none] at hf
    symm
    rw [mfind_none]
    exact fun p hp => hf p (h.mem_iff.2 hp)
  | some x => exact (mfind_of_mem hb (h.mem_iff.1 (mfind_mem hf))).symm
theorem put_perm {V : Type} {a b : List (Str × V)} (hn : nodupK a) (h : a.Perm b) (k : Str) (x : V) : (mputL k x a).Perm (mputL k x b) := by
  have hb : nodupK b := (h.map Prod.fst).nodup_iff.1 hn
  have key : ∀ l : List (Str × V), nodupK l → (mputL k x l).Perm ((k, x) :: l.filter fun p => decide (p.1 ≠ k)) := by
    intro l
    induction l with
    | nil => intro _; exact .refl _
    | cons p r ih =>
      intro hl
      obtain ⟨h1, h2⟩ := nodupK_cons.1 hl
      unfold mputL
      by_cases e : k = p.1
      · rw [if_pos e, List.filter_cons, if_neg (by simp [e])]
        have : r.filter (fun p => decide (p.1 ≠ k)) = r := List.filter_eq_self.2 fun q hq => by rw [e]; simpa using h1 q hq
        rw [this]
      · rw [if_neg e, List.filter_cons, if_pos (by simpa using fun h => e h.symm)]
        exact ((ih h2).cons p).trans (.swap _ _ _)
  exact (key a hn).trans (((h.filter _).cons _).trans (key b hb).symm)
/-! ### consents -/
theorem awake32 : law32_awake = some true := by kernel_rfl
abbrev IL := List (Str × Int)
abbrev CL := List (consent_pair × GMap Str Int)
def addAll (e : Int) : IL → List Str → IL
  | m, [] => m
  | m, s :: r => addAll e (mputL s (gmax ((mfind s m).getD 0) e) m) r
theorem grant_three (r0 : consent_Consents → List Str → Int → Int → Str → Str → GMap Str Int → GMap Str Int → List Str → Option (Int × consent_Consents)) (l : CL) (e : Int) (u c : Str) (sc : List Str) (hs : sc.length ≤ 1000) :
    ∀ (r : List Str) (i n : Nat) (m : IL), sc.drop i = r → r.length < n →
    consent_Consents_Grant_L3 r0 n ⟨some l⟩ e u c (some m) sc (sc.length : Int) (i : Int) = if (addAll e m r).length > 16 then some (3, ⟨some l⟩) else some (0, ⟨some (mputL ⟨u, c⟩ (some (canonL (addAll e m r))) l)⟩) := by
  intro r
  induction r with
  | nil =>
    intro i n m hd hn
    obtain ⟨n, rfl⟩ : ∃ k, n = k + 1 := ⟨n - 1, by simp at hn; omega⟩
    have := drop_nil hd
    have hm : mlen (some m) = (m.length : Int) := by unfold mlen; simp
    have ha : addAll e m [] = m := rfl
    unfold consent_Consents_Grant_L3
    rw [if_neg (by simp; omega), hm, ha]
    by_cases h : m.length > 16
    · rw [if_pos (by simp; omega), if_pos h]
    · rw [if_neg (by simp; omega), if_neg h]; rfl
  | cons x r ih =>
    intro i n m hd hn
    obtain ⟨n, rfl⟩ : ∃ k, n = k + 1 := ⟨n - 1, by simp at hn; omega⟩
    obtain ⟨h1, h2, h3⟩ := drop_more hd
    have hlt := drop_lt hd
    unfold consent_Consents_Grant_L3
    rw [if_pos (by simp; omega), idx_n, h2, Option.bind_some, Option.bind_some, w64n (show i < 9223372036854775807 by omega)]
    exact ih (i + 1) n _ h3 (by simp at hn; omega)
theorem nodup_perm {V : Type} {a b : List (Str × V)} (hn : nodupK a) (h : a.Perm b) : nodupK b := (h.map Prod.fst).nodup_iff.1 hn
theorem addAll_perm (e : Int) : ∀ (r : List Str) {a b : IL}, nodupK a → a.Perm b → nodupK (addAll e a r) ∧ (addAll e a r).Perm (addAll e b r)
  | [], a, b, hn, h => ⟨hn, h⟩
  | s :: r, a, b, hn, h => by
    have h1 : nodupK (mputL s (gmax ((mfind s a).getD 0) e) a) := nodupK_put hn
    have h2 := put_perm hn h s (gmax ((mfind s a).getD 0) e)
    have e1 := mfind_perm hn h s
    have := addAll_perm e r h1 h2
    simp only [addAll]
    rw [← e1]
    exact this
def live (at_ : Int) (l : IL) : IL := l.filter fun p => decide (p.2 > at_)
theorem put_new {V : Type} {k : Str} {x : V} {m : List (Str × V)} (h : mfind k m = none) : mputL k x m = m ++ [(k, x)] := put_none h
theorem live_cons (at_ : Int) (p : Str × Int) (l : IL) : live at_ (p :: l) = if p.2 > at_ then p :: live at_ l else live at_ l := by
  unfold live
  rw [List.filter_cons]
  by_cases h : p.2 > at_ <;> simp [h]
/-- what Grant does, by what the old entries are -/
def grR (l : CL) (u c : Str) (e at_ : Int) (old : IL) (sc : List Str) : Int × consent_Consents :=
  if (addAll e (live at_ old) sc).length > 16 then (3, ⟨some l⟩) else (0, ⟨some (mputL ⟨u, c⟩ (some (canonL (addAll e (live at_ old) sc))) l)⟩)
theorem grant_one (l : CL) (u c : Str) (e at_ : Int) (sc : List Str) (hs : sc.length ≤ 1000) (old : IL) (hn : nodupK old) :
    ∀ (k : Nat) (done : List Str) (m : IL) (n : Nat), (leftL old done).length = k → k < n → (m ++ live at_ (leftL old done)).Perm (live at_ old) →
    consent_Consents_Grant_L1 n ⟨some l⟩ sc e at_ u c (some m) (some old) done = some (grR l u c e at_ old sc) := by
  have hl : nodupK (live at_ old) := nodupK_filter hn
  intro k
  induction k with
  | zero =>
    intro done m n hk hnn hp
    obtain ⟨n, rfl⟩ : ∃ k, n = k + 1 := ⟨n - 1, by omega⟩
    have e0 := List.eq_nil_of_length_eq_zero hk
    rw [e0] at hp
    have hp' : m.Perm (live at_ old) := by simpa [live] using hp
    have hm : nodupK m := nodup_perm hl hp'.symm
    obtain ⟨a1, a2⟩ := addAll_perm e sc hm hp'
    unfold consent_Consents_Grant_L1
    rw [mleft_some, e0]
    refine pickAny_of (fun _ => ?_) (fun x hx => by cases hx)
    have := grant_three (consent_Consents_Grant_L1 n) l e u c sc hs sc 0 fuel m rfl (by unfold fuel; omega)
    rw [show ((0 : Nat) : Int) = 0 from rfl] at this
    rw [this]
    unfold grR
    rw [a2.length_eq, canonL_eq a1 a2]
    split <;> rfl
  | succ k ih =>
    intro done m n hk hnn hp
    obtain ⟨n, rfl⟩ : ∃ k, n = k + 1 := ⟨n - 1, by omega⟩
    unfold consent_Consents_Grant_L1
    rw [mleft_some]
    refine pickAny_of (fun x => by rw [x] at hk; cases hk) (fun x hx => ?_)
    have hlen := leftL_len hn hx
    have hpx := leftL_perm hn hx
    have hlx : (live at_ (leftL old done)).Perm (live at_ (x :: leftL old (x.1 :: done))) := hpx.filter _
    have hp2 := ((List.Perm.append_left m hlx).symm).trans hp
    rw [live_cons] at hp2
    unfold consent_Consents_Grant_B2
    by_cases hx2 : x.2 > at_
    · rw [if_pos hx2] at hp2
      have hmn : nodupK (m ++ x :: live at_ (leftL old (x.1 :: done))) := nodup_perm hl hp2.symm
      have hnew : mfind x.1 m = none := by
        rw [mfind_none]
        intro q hq e'
        unfold nodupK at hmn
        rw [List.map_append, List.nodup_append] at hmn
        exact hmn.2.2 q.1 (List.mem_map.2 ⟨q, hq, rfl⟩) x.1 (by simp) e'
      rw [if_pos (decide_eq_true hx2), chk_t (show (some m : GMap Str Int).isSome = true from rfl)]
      have hput : mput (some m) x.1 x.2 = some (m ++ [x]) := by
        show some (mputL x.1 x.2 m) = _
        rw [put_new hnew]
      rw [hput]
      exact ih (x.1 :: done) (m ++ [x]) n (by omega) (by omega) (by simpa using hp2)
    · rw [if_neg hx2] at hp2
      rw [if_neg (by simpa using hx2)]
      exact ih (x.1 :: done) m n (by omega) (by omega) hp2
theorem clock_Add0 (a : Int) : clock_Add a 0 = some (lim a) := by
  unfold clock_Add
  have h := lim_range a
  have e1 : clock_limited a = some (lim a) := rfl
  have e0 : clock_limited 0 = some 0 := rfl
  rw [e1, e0, Option.bind_some, Option.bind_some, Int.add_zero, w64 (by omega) (by omega)]
  have e2 : clock_limited (lim a) = some (lim (lim a)) := rfl
  rw [e2, Option.bind_some]
  congr 1
  rw [lim_val (lim a), if_neg (by omega), if_neg (by omega)]
theorem valid_loop (m : IL) (hn : nodupK m) (hm : m.length ≤ 1000) (now : Int) : ∀ (k : Nat) (done out : List Str) (n : Nat), (leftL m done).length = k → k < n → (out ++ (live (lim now) (leftL m done)).map Prod.fst).Perm ((live (lim now) m).map Prod.fst) →
    consent_Consents_valid_L1 n now out (some m) done = some (sortS ((live (lim now) m).map Prod.fst)) := by
  intro k
  induction k with
  | zero =>
    intro done out n hk hnn hp
    obtain ⟨n, rfl⟩ : ∃ k, n = k + 1 := ⟨n - 1, by omega⟩
    have e0 := List.eq_nil_of_length_eq_zero hk
    rw [e0] at hp
    have hp' : out.Perm ((live (lim now) m).map Prod.fst) := by simpa [live] using hp
    unfold consent_Consents_valid_L1
    rw [mleft_some, e0]
    refine pickAny_of (fun _ => ?_) (fun x hx => by cases hx)
    congr 1
    exact sorted_unique ((sortS_perm _).trans (hp'.trans (sortS_perm _).symm)) (sortS_sorted _) (sortS_sorted _)
  | succ k ih =>
    intro done out n hk hnn hp
    obtain ⟨n, rfl⟩ : ∃ k, n = k + 1 := ⟨n - 1, by omega⟩
    unfold consent_Consents_valid_L1
    rw [mleft_some]
    refine pickAny_of (fun x => by rw [x] at hk; cases hk) (fun x hx => ?_)
    have hlen := leftL_len hn hx
    have hlx : (live (lim now) (leftL m done)).Perm (live (lim now) (x :: leftL m (x.1 :: done))) := (leftL_perm hn hx).filter _
    have hp2 := ((List.Perm.append_left out (hlx.map Prod.fst)).symm).trans hp
    rw [live_cons] at hp2
    rw [clock_Add0, Option.bind_some]
    unfold consent_Consents_valid_B2
    have hol : out.length ≤ m.length := by
      have h1 := hp.length_eq
      have h2 : (live (lim now) m).length ≤ m.length := List.length_filter_le _ _
      simp at h1; omega
    by_cases hx2 : x.2 > lim now
    · rw [if_pos hx2] at hp2
      rw [if_pos (decide_eq_true hx2), chk_t (by simp [fitL]; omega)]
      exact ih (x.1 :: done) (out ++ [x.1]) n (by omega) (by omega) (by simpa using hp2)
    · rw [if_neg hx2] at hp2
      rw [if_neg (by simpa using hx2)]
      exact ih (x.1 :: done) out n (by omega) (by omega) hp2
/-! ### the state: each pair with its entries -/
abbrev AL := List (consent_pair × IL)
section
variable {K V W : Type} [DecidableEq K]
theorem find_mapV (f : V → W) (k : K) : ∀ l : List (K × V), mfind k (l.map fun p => (p.1, f p.2)) = (mfind k l).map f
  | [] => rfl
  | p :: l => by
    simp only [List.map_cons, mfind]
    split
    · rfl
    · exact find_mapV f k l
theorem put_mapV (f : V → W) (k : K) (x : V) : ∀ l : List (K × V), mputL k (f x) (l.map fun p => (p.1, f p.2)) = (mputL k x l).map fun p => (p.1, f p.2)
  | [] => rfl
  | p :: l => by
    simp only [List.map_cons, mputL]
    split
    · rfl
    · rw [put_mapV f k x l]; rfl
theorem del_mapV (f : V → W) (k : K) : ∀ l : List (K × V), mdelL k (l.map fun p => (p.1, f p.2)) = (mdelL k l).map fun p => (p.1, f p.2)
  | [] => rfl
  | p :: l => by
    simp only [List.map_cons, mdelL]
    split
    · rfl
    · rw [del_mapV f k l]; rfl
theorem keys_put (k : K) (x : V) : ∀ l : List (K × V), (mputL k x l).map Prod.fst = if k ∈ l.map Prod.fst then l.map Prod.fst else l.map Prod.fst ++ [k]
  | [] => by simp [mputL]
  | p :: l => by
    unfold mputL
    by_cases e : k = p.1
    · rw [if_pos e, if_pos (by simp [e])]; simp [e]
    · rw [if_neg e, List.map_cons, keys_put k x l]
      by_cases h : k ∈ l.map Prod.fst
      · rw [if_pos h, if_pos (by simp at h ⊢; exact .inr h)]; rfl
      · rw [if_neg h, if_neg (by simp at h ⊢; exact ⟨e, h⟩)]; rfl
theorem keys_del {k : K} {l : List (K × V)} (hn : nodupK l) : (mdelL k l).map Prod.fst = (l.map Prod.fst).filter fun x => decide (x ≠ k) := by
  rw [del_filter hn, List.filter_map]; rfl
theorem find_keys {k : K} {l : List (K × V)} : (mfind k l).isSome = true ↔ k ∈ l.map Prod.fst := by
  cases h : mfind k l with
  | none =>
    rw [mfind_none] at h
    simp only [Option.isSome_none, Bool.false_eq_true, false_iff, List.mem_map, not_exists, not_and]
    exact fun p hp => h p hp
  | some x => simp only [Option.isSome_some, true_iff, List.mem_map]; exact ⟨_, mfind_mem h, rfl⟩
end
theorem opt_cases {α : Type} (o : Option α) : o = none ∨ ∃ r, o = some r := by cases o <;> simp
theorem mlen_some {K V : Type} (l : List (K × V)) : mlen (some l) = (l.length : Int) := by unfold mlen; simp
theorem or3 (a b : Bool) : (if (!a) = true then some true else some (!b)) = some (!a || !b) := by cases a <;> rfl
abbrev cs (a : AL) : CL := a.map fun p => (p.1, some p.2)
def old (a : AL) (k : consent_pair) : IL := (mfind k a).getD []
/-- what a pair's entries are -/
structure goodI (m : IL) : Prop where
  nd : nodupK m
  len : m.length ≤ 16
  val : ∀ q ∈ m, valid q.1 = true
structure InvA (a : AL) : Prop where
  nd : nodupK a
  len : a.length ≤ 256
  good : ∀ p ∈ a, goodI p.2
theorem goodI_nil : goodI [] := ⟨nodupK_nil, by simp, fun q h => by cases h⟩
theorem invA_nil : InvA [] := ⟨nodupK_nil, by simp, fun q h => by cases h⟩
theorem InvA.old {a : AL} (h : InvA a) (k : consent_pair) : goodI (old a k) := by
  unfold S.old
  rcases opt_cases (mfind k a) with e | ⟨m, e⟩
  · rw [e]; exact goodI_nil
  · rw [e]; exact h.good _ (mfind_mem e)
theorem live_good {m : IL} (h : goodI m) (t : Int) : goodI (live t m) := ⟨nodupK_filter h.nd, Nat.le_trans (List.length_filter_le _ _) h.len, fun q hq => h.val q (List.mem_filter.1 hq).1⟩
theorem goodI.keys {m : IL} (h : goodI m) : sm (m.map Prod.fst) := ⟨by have := h.len; simp; omega, fun s hs => by
  obtain ⟨q, hq, rfl⟩ := List.mem_map.1 hs
  exact word_fits (valid_word (h.val q hq))⟩
theorem addAll_keys (e : Int) : ∀ (r : List Str) (m : IL) (p : Str × Int), p ∈ addAll e m r → p.1 ∈ r ∨ p.1 ∈ m.map Prod.fst
  | [], m, p, h => .inr (List.mem_map.2 ⟨p, h, rfl⟩)
  | s :: r, m, p, h => by
    rcases addAll_keys e r _ p h with h | h
    · exact .inl (by simp [h])
    · rw [keys_put] at h
      split at h
      · exact .inr h
      · rcases List.mem_append.1 h with h | h
        · exact .inr h
        · simp at h; exact .inl (by simp [h])
theorem addAll_nodup (e : Int) (r : List Str) {m : IL} (h : nodupK m) : nodupK (addAll e m r) := (addAll_perm e r h (.refl _)).1
/-- Grant -/
def grN (a : AL) (u c : Str) (sc : List Str) (unt now : Int) : IL := addAll (lim unt) (live (lim now) (old a ⟨u, c⟩)) sc
def grE (a : AL) (u c : Str) (sc : List Str) (unt now : Int) : Int :=
  if (!word u || !word c) then 5 else if ck sc ≠ 0 then ck sc else if sc = [] then 6 else if lim unt ≤ lim now then 13
  else if (mfind (⟨u, c⟩ : consent_pair) a).isSome = false ∧ 256 ≤ a.length then 3 else if (grN a u c sc unt now).length > 16 then 3 else 0
def grL (f : IL → IL) (a : AL) (u c : Str) (sc : List Str) (unt now : Int) : AL := if grE a u c sc unt now = 0 then mputL ⟨u, c⟩ (f (grN a u c sc unt now)) a else a
theorem grE_ok {a : AL} {u c : Str} {sc : List Str} {unt now : Int} (h : grE a u c sc unt now = 0) :
    word u = true ∧ word c = true ∧ ck sc = 0 ∧ sc ≠ [] ∧ lim now < lim unt ∧ ((mfind (⟨u, c⟩ : consent_pair) a).isSome = true ∨ a.length < 256) ∧ (grN a u c sc unt now).length ≤ 16 := by
  unfold grE at h
  by_cases h1 : (!word u || !word c) = true
  · rw [if_pos h1] at h; cases h
  rw [if_neg h1] at h
  by_cases h2 : ck sc ≠ 0
  · rw [if_pos h2] at h; exact absurd h h2
  rw [if_neg h2] at h
  by_cases h3 : sc = []
  · rw [if_pos h3] at h; cases h
  rw [if_neg h3] at h
  by_cases h4 : lim unt ≤ lim now
  · rw [if_pos h4] at h; cases h
  rw [if_neg h4] at h
  by_cases h5 : (mfind (⟨u, c⟩ : consent_pair) a).isSome = false ∧ 256 ≤ a.length
  · rw [if_pos h5] at h; cases h
  rw [if_neg h5] at h
  by_cases h6 : (grN a u c sc unt now).length > 16
  · rw [if_pos h6] at h; cases h
  simp only [Bool.or_eq_true, Bool.not_eq_true', not_or, Bool.not_eq_false] at h1
  refine ⟨h1.1, h1.2, by simpa using h2, h3, by omega, ?_, by omega⟩
  cases hm : (mfind (⟨u, c⟩ : consent_pair) a).isSome with
  | true => exact .inl rfl
  | false => exact .inr (by simp only [hm, true_and] at h5; omega)
theorem grN_good {a : AL} (h : InvA a) {u c : Str} {sc : List Str} {unt now : Int} (he : grE a u c sc unt now = 0) : goodI (grN a u c sc unt now) := by
  obtain ⟨_, _, h3, _, _, _, h7⟩ := grE_ok he
  have hg := live_good (h.old ⟨u, c⟩) (lim now)
  refine ⟨addAll_nodup _ _ hg.nd, h7, fun q hq => ?_⟩
  rcases addAll_keys _ _ _ _ hq with hq | hq
  · exact ckL_ok [] (ck_ok h3).2 _ hq
  · obtain ⟨p, hp, e⟩ := List.mem_map.1 hq
    rw [← e]; exact hg.val p hp
theorem good_perm {m m' : IL} (h : goodI m) (hp : m.Perm m') : goodI m' := ⟨nodup_perm h.nd hp, by rw [← hp.length_eq]; exact h.len, fun q hq => h.val q (hp.mem_iff.2 hq)⟩
theorem invA_put {a : AL} (h : InvA a) {k : consent_pair} {x : IL} (hk : (mfind k a).isSome = true ∨ a.length < 256) (hg : goodI x) : InvA (mputL k x a) := by
  refine ⟨nodupK_put h.nd, ?_, fun p hp => ?_⟩
  · rw [len_put]
    have := h.len
    rcases hk with hk | hk
    · rw [if_pos hk]; exact this
    · split <;> omega
  · rcases mem_put hp with rfl | hp
    · exact hg
    · exact h.good p hp
theorem invA_gr {a : AL} (h : InvA a) (f : IL → IL) (hf : ∀ m : IL, m.Perm (f m)) (u c : Str) (sc : List Str) (unt now : Int) : InvA (grL f a u c sc unt now) := by
  unfold grL
  split
  · rename_i e
    exact invA_put h (grE_ok e).2.2.2.2.2.1 (good_perm (grN_good h e) (hf _))
  · exact h
theorem mleft_none_some {K V : Type} [DecidableEq K] (done : List K) : mleft (none : GMap K V) done = mleft (some []) done := rfl
theorem grant_none (n : Nat) (l : CL) (sc : List Str) (e at_ : Int) (u c : Str) (m : GMap Str Int) : consent_Consents_Grant_L1 (n + 1) ⟨some l⟩ sc e at_ u c m none [] = consent_Consents_Grant_L1 (n + 1) ⟨some l⟩ sc e at_ u c m (some []) [] := by
  unfold consent_Consents_Grant_L1
  rw [mleft_none_some]
  rfl
theorem grant_eq {a : AL} (h : InvA a) (u c : Str) {sc : List Str} (unt now : Int) (hu : fits u) (hc : fits c) (hs : sm sc) :
    consent_Consents_Grant ⟨some (cs a)⟩ u c sc unt now = some (grE a u c sc unt now, ⟨some (cs (grL canonL a u c sc unt now))⟩) := by
  unfold consent_Consents_Grant grL
  have hsl := hs.1
  have hm : (some (cs a) : GMap consent_pair (GMap Str Int)).isNone = false := rfl
  simp only [hm, Bool.false_eq_true, if_false, fold_Word_eq u hu, fold_Word_eq c hc, Option.bind_some, or3, scope_Check_eq sc hs.2, clock_Add0]
  by_cases h1 : (!word u || !word c) = true
  · have hE : grE a u c sc unt now = 5 := by unfold grE; rw [if_pos h1]
    rw [if_pos h1, hE, if_neg (by decide)]
  rw [if_neg h1]
  by_cases h2 : ck sc ≠ 0
  · have hE : grE a u c sc unt now = ck sc := by unfold grE; rw [if_neg h1, if_pos h2]
    rw [if_pos (by simpa using h2), hE, if_neg h2]
  rw [if_neg (by simpa using h2)]
  by_cases h3 : sc = []
  · have hE : grE a u c sc unt now = 6 := by unfold grE; rw [if_neg h1, if_neg h2, if_pos h3]
    rw [if_pos (by simp [h3]), hE, if_neg (by decide)]
  rw [if_neg (by simp [h3])]
  by_cases h4 : lim unt ≤ lim now
  · have hE : grE a u c sc unt now = 13 := by unfold grE; rw [if_neg h1, if_neg h2, if_neg h3, if_pos h4]
    rw [if_pos (by simpa using h4), hE, if_neg (by decide)]
  rw [if_neg (by simpa using h4)]
  have hE : grE a u c sc unt now = if (mfind (⟨u, c⟩ : consent_pair) a).isSome = false ∧ 256 ≤ a.length then 3 else if (grN a u c sc unt now).length > 16 then 3 else 0 := by
    unfold grE; rw [if_neg h1, if_neg h2, if_neg h3, if_neg h4]
  have hF : mfind (⟨u, c⟩ : consent_pair) (cs a) = (mfind ⟨u, c⟩ a).map some := find_mapV some _ a
  unfold mhas mgetD
  simp only [Option.getD_some, hF, mlen_some, List.length_map, Option.isSome_map]
  by_cases h5 : (mfind (⟨u, c⟩ : consent_pair) a).isSome = false ∧ 256 ≤ a.length
  · rw [hE, if_pos h5, if_neg (show ¬ ((3 : Int) = 0) by decide), if_pos (by simp [h5.1]; omega)]
  · have : ¬ ((!(mfind (⟨u, c⟩ : consent_pair) a).isSome) && decide ((a.length : Int) ≥ 256)) = true := by
      intro e
      simp only [Bool.and_eq_true, Bool.not_eq_true', decide_eq_true_eq] at e
      exact h5 ⟨e.1, by omega⟩
    rw [if_neg this, hE, if_neg h5]
    have hg := (h.old ⟨u, c⟩)
    have hgl := hg.len
    have main : consent_Consents_Grant_L1 fuel ⟨some (cs a)⟩ sc (lim unt) (lim now) u c (some []) (some (old a ⟨u, c⟩)) [] = some (grR (cs a) u c (lim unt) (lim now) (old a ⟨u, c⟩) sc) :=
      grant_one (cs a) u c (lim unt) (lim now) sc hsl (old a ⟨u, c⟩) hg.nd (old a ⟨u, c⟩).length [] [] fuel (by rw [leftL_nil]) (by unfold fuel; omega) (by rw [leftL_nil]; exact .refl _)
    have fin : grR (cs a) u c (lim unt) (lim now) (old a ⟨u, c⟩) sc = ((if (grN a u c sc unt now).length > 16 then 3 else 0), ⟨some (cs (if (if (grN a u c sc unt now).length > 16 then (3 : Int) else 0) = 0 then mputL ⟨u, c⟩ (canonL (grN a u c sc unt now)) a else a))⟩) := by
      unfold grR
      have e0 : addAll (lim unt) (live (lim now) (old a ⟨u, c⟩)) sc = grN a u c sc unt now := rfl
      rw [e0]
      by_cases h6 : (grN a u c sc unt now).length > 16
      · rw [if_pos h6, if_pos h6, if_neg (by decide)]
      · rw [if_neg h6, if_neg h6, if_pos rfl, put_mapV some]
    rw [← fin, ← main]
    unfold S.old
    rcases opt_cases (mfind (⟨u, c⟩ : consent_pair) a) with e | ⟨m, e⟩
    · rw [e]
      obtain ⟨k, hk⟩ : ∃ k, fuel = k + 1 := ⟨fuel - 1, by unfold fuel; omega⟩
      rw [hk]
      exact grant_none k _ _ _ _ _ _ _
    · rw [e]; rfl
/-! ### Revoke, Drop, Len -/
theorem revoke_eq (a : AL) (u c : Str) : consent_Consents_Revoke ⟨some (cs a)⟩ u c = some ((mfind (⟨u, c⟩ : consent_pair) a).isSome, ⟨some (cs (mdelL ⟨u, c⟩ a))⟩) := by
  have hF : mfind (⟨u, c⟩ : consent_pair) (cs a) = (mfind ⟨u, c⟩ a).map some := find_mapV some _ a
  have hD : mdelL (⟨u, c⟩ : consent_pair) (cs a) = cs (mdelL ⟨u, c⟩ a) := del_mapV some _ a
  unfold consent_Consents_Revoke mhas mdel
  simp only [Option.getD_some, hF, Option.isSome_map, Option.bind_some, Option.map_some, hD]
theorem invA_del {a : AL} (h : InvA a) (k : consent_pair) : InvA (mdelL k a) := by
  refine ⟨nodupK_del h.nd, ?_, fun p hp => h.good p (mem_del hp)⟩
  have := len_del (k := k) h.nd
  have := h.len
  omega
theorem len_eq (a : AL) : consent_Consents_Len ⟨some (cs a)⟩ = some (a.length : Int) := by
  unfold consent_Consents_Len
  simp only [mlen_some, List.length_map]
def others {V : Type} (u : Str) (l : List (consent_pair × V)) : List (consent_pair × V) := l.filter fun p => !(p.1.user == u)
theorem others_len {V : Type} (u : Str) (l : List (consent_pair × V)) : (others u l).length ≤ l.length := List.length_filter_le _ _
theorem others_cs (u : Str) (a : AL) : others u (cs a) = cs (others u a) := by
  unfold others cs
  rw [List.filter_map]; rfl
theorem dropf_loop (u : Str) (l0 : CL) (hn0 : nodupK l0) : ∀ (k : Nat) (l : CL) (done : List consent_pair) (n : Nat), (leftL l done).length = k → k < n → nodupK l → others u l = others u l0 → (∀ p ∈ l, p.1 ∈ done → (p.1.user == u) = false) →
    maps_DeleteFunc_map_consent_pair_map_string_int_consent_pair_map_string_int__Consents_Drop_1_L1 n (some l) u done = some (some (others u l0)) := by
  intro k
  induction k with
  | zero =>
    intro l done n hk hn hnd ho hd
    obtain ⟨n, rfl⟩ : ∃ k, n = k + 1 := ⟨n - 1, by omega⟩
    have e := List.eq_nil_of_length_eq_zero hk
    unfold maps_DeleteFunc_map_consent_pair_map_string_int_consent_pair_map_string_int__Consents_Drop_1_L1
    rw [mleft_some, e]
    refine pickAny_of (fun _ => ?_) (fun e he => by cases he)
    rw [← ho]
    congr 2
    symm
    refine List.filter_eq_self.2 fun p hp => ?_
    have : p.1 ∈ done := by
      refine Classical.byContradiction fun hc => ?_
      have : p ∈ leftL l done := List.mem_filter.2 ⟨hp, by simpa using hc⟩
      rw [e] at this; cases this
    rw [hd p hp this]; rfl
  | succ k ih =>
    intro l done n hk hn hnd ho hd
    obtain ⟨n, rfl⟩ : ∃ k, n = k + 1 := ⟨n - 1, by omega⟩
    unfold maps_DeleteFunc_map_consent_pair_map_string_int_consent_pair_map_string_int__Consents_Drop_1_L1
    rw [mleft_some]
    refine pickAny_of (fun e => by rw [e] at hk; cases hk) (fun e he => ?_)
    obtain ⟨he1, he2⟩ := leftL_mem he
    have hlen := leftL_len hnd he
    unfold consent_Consents_Drop_1 maps_DeleteFunc_map_consent_pair_map_string_int_consent_pair_map_string_int__Consents_Drop_1_B2
    rw [Option.bind_some]
    cases hx : e.1.user == u with
    | true =>
      rw [if_pos rfl]
      have hm : mdel (some l) e.1 = some (mdelL e.1 l) := rfl
      rw [hm]
      have e1 : leftL (mdelL e.1 l) (e.1 :: done) = leftL l (e.1 :: done) := by
        rw [del_filter hnd]
        unfold leftL
        rw [List.filter_filter]
        refine List.filter_congr fun p _ => ?_
        by_cases hp : p.1 = e.1 <;> simp [hp]
      refine ih _ _ n (by rw [e1]; omega) (by omega) (nodupK_del hnd) ?_ fun p hp hpd => ?_
      · rw [← ho, del_filter hnd]
        unfold others
        rw [List.filter_filter]
        refine List.filter_congr fun p hp => ?_
        by_cases hpe : p.1 = e.1
        · simp [hpe, hx]
        · simp [hpe]
      · rw [del_filter hnd, List.mem_filter] at hp
        have q2 : p.1 ≠ e.1 := by simpa using hp.2
        refine hd p hp.1 ?_
        rcases List.mem_cons.1 hpd with h | h
        · exact absurd h q2
        · exact h
    | false =>
      rw [if_neg (by simp)]
      refine ih _ _ n (by omega) (by omega) hnd ho fun p hp hpd => ?_
      rcases List.mem_cons.1 hpd with h | h
      · rw [h]; exact hx
      · exact hd p hp h
theorem nodup_cs {a : AL} (h : nodupK a) : nodupK (cs a) := by
  unfold nodupK cs at *
  rw [List.map_map]; exact h
theorem drop_eq {a : AL} (h : InvA a) (u : Str) : consent_Consents_Drop ⟨some (cs a)⟩ u = some ((a.length : Int) - ((others u a).length : Int), ⟨some (cs (others u a))⟩) := by
  have hl := h.len
  have ho := others_len u a
  unfold consent_Consents_Drop maps_DeleteFunc_map_consent_pair_map_string_int_consent_pair_map_string_int__Consents_Drop_1
  have := dropf_loop u (cs a) (nodup_cs h.nd) (cs a).length (cs a) [] fuel (by rw [leftL_nil]) (by rw [List.length_map]; unfold fuel; omega) (nodup_cs h.nd) rfl (fun p _ hp => by cases hp)
  simp only
  rw [this, Option.bind_some, mlen_some, mlen_some, others_cs, List.length_map, List.length_map, w64 (by omega) (by omega)]
theorem invA_others {a : AL} (h : InvA a) (u : Str) : InvA (others u a) := ⟨nodupK_filter h.nd, by have := others_len u a; have := h.len; omega, fun p hp => h.good p (List.mem_filter.1 hp).1⟩
theorem find_others {V : Type} (u : Str) (k : consent_pair) (l : List (consent_pair × V)) : mfind k (others u l) = if k.user = u then none else mfind k l := by
  have := mfind_filter (k := k) (q := fun x : consent_pair => !(x.user == u)) (l := l)
  unfold others
  rw [this]
  by_cases e : k.user = u <;> simp [e]
/-! ### Scopes, Covers -/
def lv (a : AL) (u c : Str) (now : Int) : List Str := (live (lim now) (old a ⟨u, c⟩)).map Prod.fst
def scS (a : AL) (u c : Str) (now : Int) : List Str := sorted (lv a u c now)
theorem lv_sm {a : AL} (h : InvA a) (u c : Str) (now : Int) : sm (lv a u c now) := (live_good (h.old _) _).keys
theorem valid_eq {a : AL} (h : InvA a) (p : consent_pair) (now : Int) : consent_Consents_valid ⟨some (cs a)⟩ p now = some (sortS (lv a p.user p.client now)) := by
  have hF : mfind p (cs a) = (mfind p a).map some := find_mapV some _ a
  have hg := h.old p
  have hgl := hg.len
  have main := valid_loop (old a p) hg.nd (by omega) now (old a p).length [] [] fuel (by rw [leftL_nil]) (by unfold fuel; omega) (by rw [leftL_nil]; exact .refl _)
  unfold consent_Consents_valid mgetD
  simp only [Option.getD_some, hF, Option.bind_some]
  have e0 : sortS (lv a p.user p.client now) = sortS ((live (lim now) (old a p)).map Prod.fst) := rfl
  rw [e0, ← main]
  unfold S.old
  rcases opt_cases (mfind p a) with e | ⟨m, e⟩
  · rw [e]
    obtain ⟨k, hk⟩ : ∃ k, fuel = k + 1 := ⟨fuel - 1, by unfold fuel; omega⟩
    rw [hk]
    unfold consent_Consents_valid_L1
    rw [Option.map_none, Option.getD_none, mleft_none_some]
    rfl
  · rw [e]; rfl
theorem scopes_eq {a : AL} (h : InvA a) (u c : Str) (now : Int) : consent_Consents_Scopes ⟨some (cs a)⟩ u c now = some (scS a u c now) := by
  unfold consent_Consents_Scopes
  rw [valid_eq h, Option.bind_some]
  refine permAny_of fun p hp => ?_
  have hp' := hp.trans (sortS_perm _)
  have hs := lv_sm h u c now
  have hps : sm p := ⟨by rw [hp'.length_eq]; exact hs.1, fun s hs' => hs.2 s (hp'.mem_iff.1 hs')⟩
  rw [scope_Sorted_eq p hps, Option.bind_some]
  unfold scS
  rw [sorted_congr fun x => hp'.mem_iff]
theorem scS_sm {a : AL} (h : InvA a) (u c : Str) (now : Int) : sm (scS a u c now) := sorted_sm (lv_sm h u c now)
theorem covers_eq {a : AL} (h : InvA a) (u c : Str) {sc : List Str} (hs : sm sc) (now : Int) : consent_Consents_Covers ⟨some (cs a)⟩ u c sc now = some (within sc (scS a u c now)) := by
  unfold consent_Consents_Covers
  have hm : (some (cs a) : GMap consent_pair (GMap Str Int)).isNone = false := rfl
  simp only [hm, Bool.not_false, if_true, scopes_eq h, Option.bind_some, scope_Within_eq _ _ hs (scS_sm h u c now)]
/-! ### Clients -/
structure IsC (a : AL) (u : Str) (now : Int) (X : List Str) : Prop where
  asc : asc X
  mem : ∀ x, x ∈ X ↔ lv a u x now ≠ []
theorem lv_key {a : AL} {u c : Str} {now : Int} (h : lv a u c now ≠ []) : (⟨u, c⟩ : consent_pair) ∈ a.map Prod.fst := by
  rw [← find_keys]
  rcases opt_cases (mfind (⟨u, c⟩ : consent_pair) a) with e | ⟨m, e⟩
  · unfold lv S.old at h; rw [e] at h; exact absurd rfl h
  · rw [e]; rfl
theorem isC_exists {a : AL} (h : InvA a) (u : Str) (now : Int) : ∃ X, IsC a u now X := by
  refine ⟨sortS ((a.filter fun p => (p.1.user == u) && !(lv a u p.1.client now).isEmpty).map fun p => p.1.client), sortS_asc ?_, fun x => ?_⟩
  · have h1 : nodupK (a.filter fun p => (p.1.user == u) && !(lv a u p.1.client now).isEmpty) := nodupK_filter h.nd
    unfold nodupK List.Nodup at h1
    rw [List.pairwise_map] at h1
    unfold List.Nodup
    rw [List.pairwise_map]
    refine h1.imp_of_mem fun {p q} hp hq hne e => hne ?_
    have e1 := (List.mem_filter.1 hp).2
    have e2 := (List.mem_filter.1 hq).2
    simp only [Bool.and_eq_true, beq_iff_eq] at e1 e2
    have : p.1 = q.1 := by
      cases hp1 : p.1; cases hq1 : q.1
      rw [hp1] at e1 e; rw [hq1] at e2 e
      simp only at e1 e2 e
      rw [e1.1, e2.1, e]
    exact this
  · rw [(sortS_perm _).mem_iff, List.mem_map]
    constructor
    · rintro ⟨p, hp, rfl⟩
      have e1 := (List.mem_filter.1 hp).2
      simp only [Bool.and_eq_true, Bool.not_eq_true', List.isEmpty_eq_false_iff] at e1
      exact e1.2
    · intro hx
      obtain ⟨p, hp, e⟩ := List.mem_map.1 (lv_key hx)
      refine ⟨p, List.mem_filter.2 ⟨hp, ?_⟩, by rw [e]⟩
      rw [e]
      simp only [beq_self_eq_true, Bool.true_and, Bool.not_eq_true', List.isEmpty_eq_false_iff]
      exact hx
theorem nodup_le : ∀ {A B : List Str}, A.Nodup → (∀ x ∈ A, x ∈ B) → A.length ≤ B.length
  | [], _, _, _ => by simp
  | a :: r, B, hn, h => by
    rw [List.nodup_cons] at hn
    have ha := h a (by simp)
    have := nodup_le (A := r) (B := B.erase a) hn.2 fun x hx => by
      have hne : x ≠ a := fun e => hn.1 (e ▸ hx)
      exact (List.mem_erase_of_ne hne).2 (h x (by simp [hx]))
    rw [List.length_erase_of_mem ha] at this
    have : 0 < B.length := List.length_pos_of_mem ha
    simp only [List.length_cons]; omega
theorem lib_Sort_eq {xs : List Str} (h : xs.length ≤ 1000) : lib_Sort xs = some (sortS xs) := by unfold lib_Sort; rw [chk_t]; exact decide_eq_true (by omega)
theorem isC_len {a : AL} {u : Str} {now : Int} {X : List Str} (h : IsC a u now X) : X.length ≤ a.length := by
  have hn : X.Nodup := h.asc.imp (fun {x y} (h : x < y) (e : x = y) => str_lt_irrefl x (by rw [← e] at h; exact h))
  have := nodup_le (B := a.map fun p => p.1.client) hn fun x hx => by
    obtain ⟨p, hp, e⟩ := List.mem_map.1 (lv_key ((h.mem x).1 hx))
    exact List.mem_map.2 ⟨p, hp, by rw [e]⟩
  simpa using this
theorem clients_loop {a : AL} (h : InvA a) (u : Str) (now : Int) {X : List Str} (hX : IsC a u now X) : ∀ (k : Nat) (done : List consent_pair) (out : List Str) (n : Nat), (leftL (cs a) done).length = k → k < n → out.Nodup →
    (∀ x ∈ out, lv a u x now ≠ [] ∧ (⟨u, x⟩ : consent_pair) ∈ done) → (∀ x, lv a u x now ≠ [] → (⟨u, x⟩ : consent_pair) ∈ done → x ∈ out) → consent_Consents_Clients_L1 n ⟨some (cs a)⟩ u now out done = some X := by
  have hl := h.len
  have hn := nodup_cs h.nd
  intro k
  induction k with
  | zero =>
    intro done out n hk hnn ho h1 h2
    obtain ⟨n, rfl⟩ : ∃ k, n = k + 1 := ⟨n - 1, by omega⟩
    have e := List.eq_nil_of_length_eq_zero hk
    have hol : out.length ≤ 256 := by
      have := nodup_le (B := X) ho fun x hx => (hX.mem x).2 (h1 x hx).1
      have := isC_len hX
      omega
    unfold consent_Consents_Clients_L1
    rw [mleft_some, e]
    refine pickAny_of (fun _ => ?_) (fun e he => by cases he)
    rw [lib_Sort_eq (by omega), Option.bind_some]
    congr 1
    refine asc_unique (sortS_asc ho) hX.asc fun x => ?_
    rw [(sortS_perm _).mem_iff, hX.mem]
    refine ⟨fun hx => (h1 x hx).1, fun hx => h2 x hx ?_⟩
    refine Classical.byContradiction fun hc => ?_
    obtain ⟨p, hp, e'⟩ := List.mem_map.1 (lv_key hx)
    have : (p.1, some p.2) ∈ leftL (cs a) done := List.mem_filter.2 ⟨List.mem_map.2 ⟨p, hp, rfl⟩, by simp only [e']; simpa using hc⟩
    rw [e] at this; cases this
  | succ k ih =>
    intro done out n hk hnn ho h1 h2
    obtain ⟨n, rfl⟩ : ∃ k, n = k + 1 := ⟨n - 1, by omega⟩
    have hol : out.length ≤ 256 := by
      have := nodup_le (B := X) ho fun x hx => (hX.mem x).2 (h1 x hx).1
      have := isC_len hX
      omega
    unfold consent_Consents_Clients_L1
    rw [mleft_some]
    refine pickAny_of (fun e => by rw [e] at hk; cases hk) (fun e he => ?_)
    obtain ⟨he1, he2⟩ := leftL_mem he
    have hlen := leftL_len hn he
    have hval : consent_Consents_valid ⟨some (cs a)⟩ e.1 now = some (sortS (lv a e.1.user e.1.client now)) := valid_eq h e.1 now
    have hcond : (if (e.1.user == u) = true then (consent_Consents_valid ⟨some (cs a)⟩ e.1 now).bind fun y39 => permAny y39 fun p44 => some (decide ((p44.length : Int) > 0)) else some false) = some ((e.1.user == u) && !(lv a u e.1.client now).isEmpty) := by
      cases hu : e.1.user == u with
      | false => rw [if_neg (by simp)]; rfl
      | true =>
        rw [if_pos rfl, hval, Option.bind_some]
        refine permAny_of fun p hp => ?_
        have hp' := hp.trans (sortS_perm _)
        have hu' : e.1.user = u := by simpa using hu
        rw [hp'.length_eq, hu', Bool.true_and]
        cases lv a u e.1.client now <;> simp <;> omega
    rw [hcond, Option.bind_some]
    unfold consent_Consents_Clients_B2
    by_cases hc : ((e.1.user == u) && !(lv a u e.1.client now).isEmpty) = true
    · rw [if_pos hc, chk_t (by simp [fitL]; omega)]
      simp only [Bool.and_eq_true, beq_iff_eq, Bool.not_eq_true', List.isEmpty_eq_false_iff] at hc
      have hk' : (⟨u, e.1.client⟩ : consent_pair) = e.1 := by rw [← hc.1]
      have hnin : e.1.client ∉ out := fun hx => he2 (by have := (h1 _ hx).2; rw [hk'] at this; exact this)
      refine ih (e.1 :: done) _ n (by omega) (by omega) ?_ (fun x hx => ?_) (fun x hx hd => ?_)
      · rw [List.nodup_append]
        exact ⟨ho, by simp, fun a' ha b hb => by simp at hb; subst hb; exact fun e' => hnin (e' ▸ ha)⟩
      · rcases List.mem_append.1 hx with hx | hx
        · exact ⟨(h1 x hx).1, by simp [(h1 x hx).2]⟩
        · simp at hx; subst hx; exact ⟨hc.2, by simp [hk']⟩
      · rcases List.mem_cons.1 hd with hd | hd
        · have : x = e.1.client := by rw [← hd]
          simp [this]
        · exact List.mem_append.2 (.inl (h2 x hx hd))
    · rw [if_neg hc]
      refine ih (e.1 :: done) _ n (by omega) (by omega) ho (fun x hx => ⟨(h1 x hx).1, by simp [(h1 x hx).2]⟩) (fun x hx hd => ?_)
      rcases List.mem_cons.1 hd with hd | hd
      · refine absurd ?_ hc
        have e1 : e.1.user = u := by rw [← hd]
        have e2 : e.1.client = x := by rw [← hd]
        rw [e1, e2]
        simp only [beq_self_eq_true, Bool.true_and, Bool.not_eq_true', List.isEmpty_eq_false_iff]
        exact hx
      · exact h2 x hx hd
theorem clients_eq {a : AL} (h : InvA a) (u : Str) (now : Int) {X : List Str} (hX : IsC a u now X) : consent_Consents_Clients ⟨some (cs a)⟩ u now = some X := by
  have hl := h.len
  unfold consent_Consents_Clients
  exact clients_loop h u now hX (cs a).length [] [] fuel (by rw [leftL_nil]) (by rw [List.length_map]; unfold fuel; omega) List.nodup_nil (fun x hx => by cases hx) (fun x _ hd => by cases hd)
/-! ### the specification's record -/
abbrev toI (q : Str × Int) : ref32_item := ⟨q.1, q.2⟩
abbrev toR (p : consent_pair × IL) : ref32_pair := ⟨p.1.user, p.1.client, p.2.map toI⟩
abbrev rst (r : AL) : ref32_Consents := ⟨true, r.map toR⟩
/-- where a pair lies -/
structure At (l : AL) (u c : Str) (k : Nat) (d : IL) : Prop where
  get : l[k]? = some (⟨u, c⟩, d)
  pre : ∀ q ∈ l.take k, q.1 ≠ ⟨u, c⟩
theorem At.lt {l : AL} {u c : Str} {k : Nat} {d : IL} (h : At l u c k d) : k < l.length := (List.getElem?_eq_some_iff.1 h.get).1
theorem At.ix {l : AL} {u c : Str} {k : Nat} {d : IL} (h : At l u c k d) : idx (l.map toR) (k : Int) = some (toR (⟨u, c⟩, d)) := by rw [idx_n, List.getElem?_map, h.get]; rfl
theorem At.put {l : AL} {u c : Str} {k : Nat} {d x : IL} (h : At l u c k d) : setAt (l.map toR) (k : Int) ⟨u, c, x.map toI⟩ = (mputL ⟨u, c⟩ x l).map toR := by
  rw [put_set h.get h.pre, List.map_set]
  simp [setAt]
theorem rfind_loop (l : AL) (u c : Str) (hl : l.length ≤ 1000) : ∀ (r : AL) (j n : Nat), l.drop j = r → r.length < n → (∀ q ∈ l.take j, q.1 ≠ ⟨u, c⟩) →
    (∃ (k : Nat) (x : IL), ref32_Consents_find_L1 n (rst l) u c (j : Int) = some (k : Int) ∧ At l u c k x) ∨ (ref32_Consents_find_L1 n (rst l) u c (j : Int) = some (-1) ∧ ∀ q ∈ l, q.1 ≠ ⟨u, c⟩) := by
  intro r
  induction r with
  | nil =>
    intro j n hd hn ht
    obtain ⟨n, rfl⟩ : ∃ k, n = k + 1 := ⟨n - 1, by simp at hn; omega⟩
    have := drop_nil hd
    rw [List.take_of_length_le this] at ht
    refine .inr ⟨?_, ht⟩
    simp only [ref32_Consents_find_L1, List.length_map, show ¬ ((j : Int) < l.length) by omega, decide_false, Bool.false_eq_true, if_false]
  | cons x r ih =>
    intro j n hd hn ht
    obtain ⟨n, rfl⟩ : ∃ k, n = k + 1 := ⟨n - 1, by simp at hn; omega⟩
    obtain ⟨h1, h2, h3⟩ := drop_more hd
    have hlt := drop_lt hd
    have e : ref32_Consents_find_L1 (n + 1) (rst l) u c (j : Int) = if x.1.user == u && x.1.client == c then some (j : Int) else ref32_Consents_find_L1 n (rst l) u c ((j + 1 : Nat) : Int) := by
      simp only [ref32_Consents_find_L1, List.length_map, show ((j : Int) < l.length) by omega, decide_true, if_true, idx_n, List.getElem?_map, h2, Option.map_some, Option.bind_some, w64n (show j < 9223372036854775807 by omega)]
      cases x.1.user == u <;> simp
    rw [e]
    by_cases hx : (x.1.user == u && x.1.client == c) = true
    · rw [if_pos hx]
      simp only [Bool.and_eq_true, beq_iff_eq] at hx
      refine .inl ⟨j, x.2, rfl, ?_, ht⟩
      rw [h2, ← hx.1, ← hx.2]
    · rw [if_neg hx]
      refine ih (j + 1) n h3 (by simp at hn; omega) fun q hq => ?_
      rw [take_more hd] at hq
      rcases List.mem_append.1 hq with hq | hq
      · exact ht q hq
      · simp at hq; subst hq
        intro e; apply hx; rw [e]; simp
theorem rfind {l : AL} (h : InvA l) (u c : Str) :
    (∃ (k : Nat) (x : IL), ref32_Consents_find (rst l) u c = some (k : Int) ∧ At l u c k x ∧ mfind ⟨u, c⟩ l = some x) ∨ (ref32_Consents_find (rst l) u c = some (-1) ∧ mfind (⟨u, c⟩ : consent_pair) l = none) := by
  have hl := h.len
  rcases rfind_loop l u c (by omega) l 0 fuel rfl (by unfold fuel; omega) (by simp) with ⟨k, x, h1, h2⟩ | ⟨h1, h2⟩
  · exact .inl ⟨k, x, h1, h2, mfind_of_mem h.nd (List.mem_of_getElem? h2.get)⟩
  · exact .inr ⟨h1, mfind_none.2 h2⟩
theorem rmade_eq (l : AL) : ref32_Consents_Made (rst l) = some true := rfl
theorem rlim_eq (t : Int) : ref22_Limited t = some (lim t) := by unfold ref22_Limited; rw [lim_eq]
/-- one scope -/
def updF (s : Str) (e : Int) (q : Str × Int) : Str × Int := if q.1 = s then (q.1, gmax q.2 e) else q
theorem upd_none {s : Str} {e : Int} : ∀ {m : IL}, mfind s m = none → m.map (updF s e) = m
  | [], _ => rfl
  | q :: m, h => by
    unfold mfind at h
    split at h
    · cases h
    · rename_i hne
      rw [List.map_cons, upd_none h]
      unfold updF
      rw [if_neg (fun h => hne h.symm)]
theorem upd_some {s : Str} {e t : Int} : ∀ {m : IL}, nodupK m → mfind s m = some t → m.map (updF s e) = mputL s (gmax t e) m
  | [], _, h => by cases h
  | q :: m, hn, h => by
    obtain ⟨h1, h2⟩ := nodupK_cons.1 hn
    unfold mfind at h
    unfold mputL
    by_cases hq : s = q.1
    · rw [if_pos hq] at h ⊢
      have hm : mfind s m = none := mfind_none.2 fun p hp e' => h1 p hp (e'.trans hq)
      rw [List.map_cons, upd_none hm]
      have := Option.some.inj h
      unfold updF
      rw [if_pos hq.symm, this, hq]
    · rw [if_neg hq] at h ⊢
      rw [List.map_cons, upd_some h2 h]
      unfold updF
      rw [if_neg (fun h => hq h.symm)]
theorem joined_four (r0 : List ref32_item → List Str → Int → Int → List ref32_item → Int → Option (List ref32_item)) (r1 : List Str → Int → List ref32_item → Int → Option (List ref32_item)) (sc : List Str) (e : Int) (k : Nat) (s : Str) (hk : sc[k]? = some s) (hk' : k < 1000) :
    ∀ (r : IL) (i n : Nat) (o : IL) (f : Bool), o.drop i = r → r.length < n → o.length ≤ 1000 →
    ref32_joined_L4 r0 r1 n sc e (o.map toI) (k : Int) f (i : Int) = r1 sc e ((if f || (mfind s r).isSome then o.take i ++ r.map (updF s e) else o ++ [(s, e)]).map toI) ((k + 1 : Nat) : Int) := by
  intro r
  have hix : idx sc (k : Int) = some s := by rw [idx_n, hk]
  induction r with
  | nil =>
    intro i n o f hd hn ho
    obtain ⟨n, rfl⟩ : ∃ k, n = k + 1 := ⟨n - 1, by simp at hn; omega⟩
    have hle := drop_nil hd
    unfold ref32_joined_L4
    rw [if_neg (by simp; omega)]
    unfold ref32_joined_B6
    cases f with
    | true => simp only [Bool.not_true, Bool.false_eq_true, if_false, Bool.true_or, if_true, List.map_nil, List.append_nil, List.take_of_length_le hle, w64n (show k < 9223372036854775807 by omega)]
    | false =>
      have hf : (false || (mfind s ([] : IL)).isSome) = false := rfl
      rw [hf, hix]
      simp only [Bool.not_false, if_true, Option.bind_some, Bool.false_eq_true, if_false, w64n (show k < 9223372036854775807 by omega)]
      rw [chk_t (by simp [fitL]; omega), List.map_append]; rfl
  | cons x r ih =>
    intro i n o f hd hn ho
    obtain ⟨n, rfl⟩ : ∃ k, n = k + 1 := ⟨n - 1, by simp at hn; omega⟩
    obtain ⟨h1, h2, h3⟩ := drop_more hd
    have hlt := drop_lt hd
    have hxi : idx (o.map toI) (i : Int) = some (toI x) := by rw [idx_n, List.getElem?_map, h2]; rfl
    unfold ref32_joined_L4
    rw [if_pos (by simp; omega), hxi, Option.bind_some, hix, Option.bind_some, Option.bind_some, Option.bind_some]
    unfold ref32_joined_B5
    rw [w64n (show i < 9223372036854775807 by omega)]
    by_cases hx : x.1 = s
    · have hset : setAt (o.map toI) (i : Int) ⟨x.1, gmax x.2 e⟩ = (o.set i (x.1, gmax x.2 e)).map toI := by rw [List.map_set]; simp [setAt]
      have hd2 : (o.set i (x.1, gmax x.2 e)).drop (i + 1) = r := by rw [List.drop_set_of_lt (by omega)]; exact h3
      have ht2 : (o.set i (x.1, gmax x.2 e)).take (i + 1) = o.take i ++ [(x.1, gmax x.2 e)] := by
        rw [List.take_add_one, List.take_set_of_le (Nat.le_refl _), List.getElem?_set_self hlt]; rfl
      rw [if_pos (by simpa using hx), hset, ih (i + 1) n _ true hd2 (by simp at hn; omega) (by simpa using ho)]
      have c1 : (f || (mfind s (x :: r)).isSome) = true := by unfold mfind; rw [if_pos hx.symm]; simp
      rw [c1, Bool.true_or, if_pos rfl, if_pos rfl, ht2, List.map_cons]
      have : updF s e x = (x.1, gmax x.2 e) := by unfold updF; rw [if_pos hx]
      rw [this, List.append_assoc]; rfl
    · rw [if_neg (by simpa using hx), ih (i + 1) n o f h3 (by simp at hn; omega) ho]
      have c1 : mfind s (x :: r) = mfind s r := by
        conv => lhs; unfold mfind
        rw [if_neg (fun h => hx h.symm)]
      have : updF s e x = x := by unfold updF; rw [if_neg hx]
      rw [c1, take_more hd, List.map_cons, this, List.append_assoc]; rfl
theorem joined_three (r0 : List ref32_item → List Str → Int → Int → List ref32_item → Int → Option (List ref32_item)) (sc : List Str) (e : Int) (he : 0 ≤ e) (hs : sc.length ≤ 500) :
    ∀ (r : List Str) (k n : Nat) (o : IL), sc.drop k = r → r.length < n → nodupK o → o.length ≤ 20 + k → ref32_joined_L3 r0 n sc e (o.map toI) (k : Int) = some ((addAll e o r).map toI) := by
  intro r
  induction r with
  | nil =>
    intro k n o hd hn ho hl
    obtain ⟨n, rfl⟩ : ∃ k, n = k + 1 := ⟨n - 1, by simp at hn; omega⟩
    have := drop_nil hd
    unfold ref32_joined_L3
    rw [if_neg (by simp; omega)]; rfl
  | cons s r ih =>
    intro k n o hd hn ho hl
    obtain ⟨n, rfl⟩ : ∃ k, n = k + 1 := ⟨n - 1, by simp at hn; omega⟩
    obtain ⟨h1, h2, h3⟩ := drop_more hd
    have hlt := drop_lt hd
    have hF : o.length < fuel := by unfold fuel; omega
    have h4 := joined_four r0 (ref32_joined_L3 r0 n) sc e k s h2 (by omega) o 0 fuel o false rfl hF (by omega)
    have e0 : (if (false || (mfind s o).isSome) = true then o.take 0 ++ o.map (updF s e) else o ++ [(s, e)]) = mputL s (gmax ((mfind s o).getD 0) e) o := by
      rcases opt_cases (mfind s o) with hf | ⟨t, hf⟩
      · rw [hf, if_neg (by simp), put_none hf]
        have : gmax ((none : Option Int).getD 0) e = e := by unfold gmax; simp only [Option.getD_none]; split <;> omega
        rw [this]
      · rw [hf, if_pos (by simp), List.take_zero, List.nil_append, upd_some ho hf]; rfl
    unfold ref32_joined_L3
    rw [if_pos (by simp; omega)]
    have e00 : ((0 : Nat) : Int) = 0 := rfl
    rw [e00] at h4
    rw [h4, e0]
    refine ih (k + 1) n _ h3 (by simp at hn; omega) (nodupK_put ho) ?_
    rw [len_put]; split <;> omega
theorem joined_eq {m : IL} (hm : nodupK m) (hl : m.length ≤ 20) (sc : List Str) (hs : sc.length ≤ 500) (e at_ : Int) (he : 0 ≤ e) : ref32_joined (m.map toI) sc e at_ = some ((addAll e (live at_ m) sc).map toI) := by
  have key : ∀ (r : IL) (i n : Nat) (o : IL), m.drop i = r → r.length < n → o ++ live at_ r = live at_ m → ref32_joined_L1 n (m.map toI) sc e at_ (o.map toI) (i : Int) = some ((addAll e (live at_ m) sc).map toI) := by
    intro r
    induction r with
    | nil =>
      intro i n o hd hn ho
      obtain ⟨n, rfl⟩ : ∃ k, n = k + 1 := ⟨n - 1, by simp at hn; omega⟩
      have := drop_nil hd
      have ho' : o = live at_ m := by simpa [live] using ho
      have hll : (live at_ m).length ≤ m.length := List.length_filter_le _ _
      unfold ref32_joined_L1
      rw [if_neg (by simp; omega), ho']
      have hF : sc.length < fuel := by unfold fuel; omega
      exact joined_three (ref32_joined_L1 n) sc e he hs sc 0 fuel (live at_ m) rfl hF (nodupK_filter hm) (by omega)
    | cons x r ih =>
      intro i n o hd hn ho
      obtain ⟨n, rfl⟩ : ∃ k, n = k + 1 := ⟨n - 1, by simp at hn; omega⟩
      obtain ⟨h1, h2, h3⟩ := drop_more hd
      have hlt := drop_lt hd
      have hxi : idx (m.map toI) (i : Int) = some (toI x) := by rw [idx_n, List.getElem?_map, h2]; rfl
      have hol : o.length ≤ m.length := by
        have h := congrArg List.length ho
        have hll : (live at_ m).length ≤ m.length := List.length_filter_le _ _
        rw [List.length_append] at h; omega
      rw [live_cons] at ho
      unfold ref32_joined_L1
      rw [if_pos (by simp; omega), hxi, Option.bind_some, Option.bind_some]
      unfold ref32_joined_B2
      rw [w64n (show i < 9223372036854775807 by omega)]
      by_cases hx : x.2 > at_
      · rw [if_pos hx] at ho
        rw [if_pos (decide_eq_true hx), chk_t (by simp [fitL]; omega)]
        have := ih (i + 1) n (o ++ [x]) h3 (by simp at hn; omega) (by simpa using ho)
        rw [List.map_append] at this
        exact this
      · rw [if_neg hx] at ho
        rw [if_neg (by simpa using hx)]
        exact ih (i + 1) n o h3 (by simp at hn; omega) ho
  exact key m 0 fuel [] rfl (by unfold fuel; omega) rfl
theorem rgrant_eq {r : AL} (h : InvA r) (u c : Str) {sc : List Str} (unt now : Int) (hu : fits u) (hc : fits c) (hs : sm sc) :
    ref32_Consents_Grant (rst r) u c sc unt now = some (grE r u c sc unt now, rst (grL id r u c sc unt now)) := by
  have hl := h.len
  have hsl := hs.1
  unfold ref32_Consents_Grant grL
  simp only [rmade_eq, Option.bind_some, Bool.not_true, Bool.false_eq_true, if_false, rlim_eq, ref01_Word_eq u hu, ref01_Word_eq c hc, or3, ref29_Check_eq sc hs.2]
  by_cases h1 : (!word u || !word c) = true
  · have hE : grE r u c sc unt now = 5 := by unfold grE; rw [if_pos h1]
    rw [if_pos h1, hE, if_neg (by decide)]
  rw [if_neg h1]
  by_cases h2 : ck sc ≠ 0
  · have hE : grE r u c sc unt now = ck sc := by unfold grE; rw [if_neg h1, if_pos h2]
    rw [if_pos (by simpa using h2), hE, if_neg h2]
  rw [if_neg (by simpa using h2)]
  by_cases h3 : sc = []
  · have hE : grE r u c sc unt now = 6 := by unfold grE; rw [if_neg h1, if_neg h2, if_pos h3]
    rw [if_pos (by simp [h3]), hE, if_neg (by decide)]
  rw [if_neg (by simp [h3])]
  by_cases h4 : lim unt ≤ lim now
  · have hE : grE r u c sc unt now = 13 := by unfold grE; rw [if_neg h1, if_neg h2, if_neg h3, if_pos h4]
    rw [if_pos (by simpa using h4), hE, if_neg (by decide)]
  rw [if_neg (by simpa using h4)]
  have hE : grE r u c sc unt now = if (mfind (⟨u, c⟩ : consent_pair) r).isSome = false ∧ 256 ≤ r.length then 3 else if (grN r u c sc unt now).length > 16 then 3 else 0 := by
    unfold grE; rw [if_neg h1, if_neg h2, if_neg h3, if_neg h4]
  have hck := (ck_ok (by simpa using h2 : ck sc = 0)).1
  have hlr := lim_range unt
  rw [hE]
  unfold ref32_Consents_Grant_B1 ref32_Consents_Grant_B2
  rcases rfind h u c with ⟨k, d, f1, f2, f3⟩ | ⟨f1, f2⟩
  · have hg := h.good _ (mfind_mem f3)
    have hgl := hg.len
    have hj := joined_eq hg.nd (by omega) sc (by omega) (lim unt) (lim now) hlr.1
    have hN : addAll (lim unt) (live (lim now) d) sc = grN r u c sc unt now := by unfold grN S.old; rw [f3]; rfl
    rw [f1, Option.bind_some, if_neg (by simp; omega), if_pos (by simp), f2.ix, Option.bind_some, hj, Option.bind_some, hN, f3, if_neg (show ¬ ((some d).isSome = false ∧ 256 ≤ r.length) by simp)]
    by_cases h6 : (grN r u c sc unt now).length > 16
    · rw [if_pos (by simp; omega), if_pos h6, if_neg (by decide)]
    · rw [if_neg (by simp; omega), if_pos (by simp), if_neg h6, if_pos rfl, Option.bind_some, f2.put]; rfl
  · have hj := joined_eq (m := []) nodupK_nil (by simp) sc (by omega) (lim unt) (lim now) hlr.1
    have hN : addAll (lim unt) (live (lim now) []) sc = grN r u c sc unt now := by unfold grN S.old; rw [f2]; rfl
    rw [f1, Option.bind_some, f2]
    by_cases h5 : 256 ≤ r.length
    · rw [if_pos (by simp; omega), if_pos ⟨rfl, h5⟩, if_neg (by decide)]
    · have hj' : ref32_joined ([] : List ref32_item) sc (lim unt) (lim now) = some ((grN r u c sc unt now).map toI) := by rw [← hN]; exact hj
      rw [if_neg (show ¬ ((none : Option IL).isSome = false ∧ 256 ≤ r.length) from fun e => h5 e.2), if_neg (by simp; omega), if_neg (by decide), hj', Option.bind_some]
      by_cases h6 : (grN r u c sc unt now).length > 16
      · rw [if_pos (by simp; omega), if_pos h6, if_neg (by decide)]
      · rw [if_neg (by simp; omega), if_neg (by decide), if_neg h6, if_pos rfl, chk_t (by simp [fitL]; omega), put_none f2]
        simp
theorem rrevoke_eq {r : AL} (h : InvA r) (u c : Str) : ref32_Consents_Revoke (rst r) u c = some ((mfind (⟨u, c⟩ : consent_pair) r).isSome, rst (mdelL ⟨u, c⟩ r)) := by
  unfold ref32_Consents_Revoke
  have hl := h.len
  rw [rmade_eq, Option.bind_some, if_neg (by simp)]
  rcases rfind h u c with ⟨k, x, h1, h2, h3⟩ | ⟨h1, h2⟩
  · have hk := h2.lt
    rw [h1, Option.bind_some, if_neg (by simp), h3, del_cut h2.get h2.pre, w64n (show k < 9223372036854775807 by omega), chk_t (by rw [inc_0]; simp; omega), cut_0, chk_t (by simp [fitL]; omega), chk_t (by rw [inc_n]; simp; omega), cut_n, chk_t (by simp [fitL]; omega)]
    unfold ref32_Consents_Revoke_B1
    rw [List.take_of_length_le (l := (r.map toR).drop (k + 1)) (by simp)]
    simp [List.map_take, List.map_drop]
  · rw [h1, Option.bind_some, if_pos (by decide), h2, del_none h2]; rfl
theorem rdrop_loop (l : AL) (u : Str) (hl : l.length ≤ 1000) : ∀ (r : AL) (j n : Nat) (out : AL), l.drop j = r → r.length < n → out = others u (l.take j) →
    ref32_Consents_Drop_L1 n (rst l) u (out.map toR) (j : Int) = some ((l.length : Int) - ((others u l).length : Int), rst (others u l)) := by
  intro r
  induction r with
  | nil =>
    intro j n out hd hn ho
    obtain ⟨n, rfl⟩ : ∃ k, n = k + 1 := ⟨n - 1, by simp at hn; omega⟩
    have := drop_nil hd
    rw [List.take_of_length_le this] at ho
    have h2 := others_len u l
    simp only [ref32_Consents_Drop_L1, List.length_map, show ¬ ((j : Int) < l.length) by omega, decide_false, Bool.false_eq_true, if_false, ho, w64 (show -9223372036854775808 ≤ (l.length : Int) - ((others u l).length : Int) by omega) (by omega), rst]
  | cons x r ih =>
    intro j n out hd hn ho
    obtain ⟨n, rfl⟩ : ∃ k, n = k + 1 := ⟨n - 1, by simp at hn; omega⟩
    obtain ⟨h1, h2, h3⟩ := drop_more hd
    have hlt := drop_lt hd
    have hol : out.length ≤ j := by
      rw [ho]
      have := others_len u (l.take j)
      simp at this; omega
    simp only [ref32_Consents_Drop_L1, List.length_map, show ((j : Int) < l.length) by omega, decide_true, if_true, idx_n, List.getElem?_map, h2, Option.map_some, Option.bind_some, ref32_Consents_Drop_B2, w64n (show j < 9223372036854775807 by omega), toR]
    cases hx : x.1.user == u with
    | true =>
      rw [if_neg (by simp)]
      refine ih (j + 1) n out h3 (by simp at hn; omega) ?_
      rw [take_more hd, ho]; simp [others, hx]
    | false =>
      rw [if_pos (by simp), chk_t (by simp [fitL]; omega)]
      have := ih (j + 1) n (out ++ [x]) h3 (by simp at hn; omega) (by rw [take_more hd, ho]; simp [others, hx])
      rw [List.map_append] at this
      exact this
theorem rdrop_eq {l : AL} (h : InvA l) (u : Str) : ref32_Consents_Drop (rst l) u = some ((l.length : Int) - ((others u l).length : Int), rst (others u l)) := by
  have hl := h.len
  unfold ref32_Consents_Drop
  rw [rmade_eq, Option.bind_some, if_neg (by simp)]
  exact rdrop_loop l u (by omega) l 0 fuel [] rfl (by unfold fuel; omega) rfl
theorem rlen_eq (r : AL) : ref32_Consents_Len (rst r) = some (r.length : Int) := by
  unfold ref32_Consents_Len
  rw [rmade_eq, Option.bind_some, if_neg (by simp)]
  simp only [List.length_map]
theorem rscopes_loop {r : AL} (h : InvA r) (u c : Str) (now : Int) (k : Nat) (d : IL) (hk : At r u c k d) (hd0 : goodI d) :
    ∀ (s : IL) (i n : Nat) (out : List Str), d.drop i = s → s.length < n → out ++ (live (lim now) s).map Prod.fst = (live (lim now) d).map Prod.fst → ref32_Consents_Scopes_L1 n (rst r) (lim now) (k : Int) out (i : Int) = some (sorted ((live (lim now) d).map Prod.fst)) := by
  intro s
  have hdl := hd0.len
  induction s with
  | nil =>
    intro i n out hd hn ho
    obtain ⟨n, rfl⟩ : ∃ k, n = k + 1 := ⟨n - 1, by simp at hn; omega⟩
    have := drop_nil hd
    have ho' : out = (live (lim now) d).map Prod.fst := by simpa [live] using ho
    have hsm := (live_good hd0 (lim now)).keys
    have hll := (live_good hd0 (lim now)).len
    unfold ref32_Consents_Scopes_L1
    rw [if_pos (by simp), hk.ix, Option.bind_some, Option.bind_some, if_neg (by simp; omega), ho', ref29_Sorted_eq _ hsm (by simp; omega), Option.bind_some]
  | cons x s ih =>
    intro i n out hd hn ho
    obtain ⟨n, rfl⟩ : ∃ k, n = k + 1 := ⟨n - 1, by simp at hn; omega⟩
    obtain ⟨h1, h2, h3⟩ := drop_more hd
    have hlt := drop_lt hd
    have hxi : idx (d.map toI) (i : Int) = some (toI x) := by rw [idx_n, List.getElem?_map, h2]; rfl
    have hol : out.length ≤ d.length := by
      have h := congrArg List.length ho
      have hll : (live (lim now) d).length ≤ d.length := List.length_filter_le _ _
      simp only [List.length_append, List.length_map] at h; omega
    rw [live_cons] at ho
    unfold ref32_Consents_Scopes_L1
    rw [if_pos (by simp), hk.ix, Option.bind_some, Option.bind_some, if_pos (by simp; omega), Option.bind_some]
    simp only [toR, hxi, Option.bind_some]
    unfold ref32_Consents_Scopes_B2
    rw [w64n (show i < 9223372036854775807 by omega)]
    by_cases hx : x.2 > lim now
    · rw [if_pos hx] at ho
      rw [if_pos (decide_eq_true hx), chk_t (by simp [fitL]; omega)]
      exact ih (i + 1) n (out ++ [x.1]) h3 (by simp at hn; omega) (by simpa using ho)
    · rw [if_neg hx] at ho
      rw [if_neg (by simpa using hx)]
      exact ih (i + 1) n out h3 (by simp at hn; omega) ho
theorem rscopes_eq {r : AL} (h : InvA r) (u c : Str) (now : Int) : ref32_Consents_Scopes (rst r) u c now = some (scS r u c now) := by
  have hl := h.len
  unfold ref32_Consents_Scopes
  rw [rmade_eq, Option.bind_some, if_neg (by simp), rlim_eq, Option.bind_some]
  unfold scS lv S.old
  rcases rfind h u c with ⟨k, d, f1, f2, f3⟩ | ⟨f1, f2⟩
  · have hg := h.good _ (mfind_mem f3)
    have hgl := hg.len
    have hF : d.length < fuel := by unfold fuel; simp only at hgl; omega
    rw [f1, Option.bind_some, f3]
    exact rscopes_loop h u c now k d f2 hg d 0 fuel [] rfl hF rfl
  · rw [f1, Option.bind_some, f2]
    obtain ⟨k, hk⟩ : ∃ k, fuel = k + 1 := ⟨fuel - 1, by unfold fuel; omega⟩
    rw [hk]
    unfold ref32_Consents_Scopes_L1
    rw [if_neg (by decide), Option.bind_some, if_neg (by simp), ref29_Sorted_eq [] ⟨by simp, fun s hs => by cases hs⟩ (by simp), Option.bind_some]
    rfl
theorem rcovers_eq {r : AL} (h : InvA r) (u c : Str) {sc : List Str} (hs : sm sc) (now : Int) : ref32_Consents_Covers (rst r) u c sc now = some (within sc (scS r u c now)) := by
  unfold ref32_Consents_Covers
  simp only [rmade_eq, if_true, rscopes_eq h, Option.bind_some, ref29_Within_eq _ _ hs (scS_sm h u c now)]
theorem sorted_ne {sc : List Str} (h : sc ≠ []) (hv : ∀ s ∈ sc, valid s = true) : 0 < (sorted sc).length := by
  cases sc with
  | nil => exact absurd rfl h
  | cons x r =>
    have h1 : cov (x :: r) x = true := cov_iff.2 ⟨x, by simp, imp_refl (hv x (by simp))⟩
    rw [← cov_sorted] at h1
    obtain ⟨t, ht, _⟩ := cov_iff.1 h1
    exact List.length_pos_of_mem ht
theorem lv_valid {a : AL} (h : InvA a) (u c : Str) (now : Int) : ∀ s ∈ lv a u c now, valid s = true := fun s hs => by
  obtain ⟨q, hq, rfl⟩ := List.mem_map.1 hs
  exact (live_good (h.old _) _).val q hq
theorem scS_pos {a : AL} (h : InvA a) (u c : Str) (now : Int) : (0 < (scS a u c now).length) ↔ lv a u c now ≠ [] := by
  constructor
  · intro hp e
    unfold scS at hp
    rw [e] at hp
    exact absurd hp (by decide)
  · exact fun hne => sorted_ne hne (lv_valid h u c now)
theorem rclients_loop {r : AL} (h : InvA r) (u : Str) (now : Int) {X : List Str} (hX : IsC r u now X) : ∀ (s : AL) (j n : Nat) (out : List Str), r.drop j = s → s.length < n → asc out → out.length ≤ j →
    (∀ x, x ∈ out ↔ lv r u x now ≠ [] ∧ (⟨u, x⟩ : consent_pair) ∈ (r.take j).map Prod.fst) → ref32_Consents_Clients_L1 n (rst r) u now out (j : Int) = some X := by
  intro s
  have hl := h.len
  induction s with
  | nil =>
    intro j n out hd hn ha hol ho
    obtain ⟨n, rfl⟩ : ∃ k, n = k + 1 := ⟨n - 1, by simp at hn; omega⟩
    have := drop_nil hd
    rw [List.take_of_length_le this] at ho
    unfold ref32_Consents_Clients_L1
    rw [if_neg (by simp; omega)]
    congr 1
    exact asc_unique ha hX.asc fun x => (ho x).trans ⟨fun hx => (hX.mem x).2 hx.1, fun hx => ⟨(hX.mem x).1 hx, lv_key ((hX.mem x).1 hx)⟩⟩
  | cons p s ih =>
    intro j n out hd hn ha hol ho
    obtain ⟨n, rfl⟩ : ∃ k, n = k + 1 := ⟨n - 1, by simp at hn; omega⟩
    obtain ⟨h1, h2, h3⟩ := drop_more hd
    have hlt := drop_lt hd
    have hxi : idx (r.map toR) (j : Int) = some (toR p) := by rw [idx_n, List.getElem?_map, h2]; rfl
    have hcond : (if ((toR p).user == u) = true then (idx (r.map toR) (j : Int)).bind fun y37 => (ref32_Consents_Scopes (rst r) u y37.client now).bind fun y48 => some (decide ((y48.length : Int) > 0)) else some false) = some ((p.1.user == u) && !(lv r u p.1.client now).isEmpty) := by
      cases hu : p.1.user == u with
      | false => rw [if_neg (by simp)]; rfl
      | true =>
        rw [if_pos rfl, hxi, Option.bind_some, rscopes_eq h, Option.bind_some, Bool.true_and]
        have := scS_pos h u p.1.client now
        congr 1
        rw [Bool.eq_iff_iff]
        simp only [decide_eq_true_eq, Bool.not_eq_true', List.isEmpty_eq_false_iff]
        rw [← this]; omega
    unfold ref32_Consents_Clients_L1
    rw [if_pos (by simp; omega)]
    simp only [hxi, Option.bind_some] at hcond ⊢
    rw [hcond, Option.bind_some]
    unfold ref32_Consents_Clients_B2
    rw [w64n (show j < 9223372036854775807 by omega)]
    by_cases hc : ((p.1.user == u) && !(lv r u p.1.client now).isEmpty) = true
    · rw [if_pos hc, ref06_Insert_eq out _ (by omega), Option.bind_some]
      simp only [Bool.and_eq_true, beq_iff_eq, Bool.not_eq_true', List.isEmpty_eq_false_iff] at hc
      have hk' : (⟨u, p.1.client⟩ : consent_pair) = p.1 := by rw [← hc.1]
      obtain ⟨s1, s2⟩ := insF_false p.1.client out ha
      have s3 := (insF_len p.1.client out false).2
      refine ih (j + 1) n _ h3 (by simp at hn; omega) s1 (by omega) fun x => ?_
      show x ∈ insF p.1.client false out ↔ _
      rw [s2, ho, take_more hd, List.map_append, List.mem_append]
      constructor
      · rintro (rfl | ⟨q1, q2⟩)
        · exact ⟨hc.2, .inr (by simp [hk'])⟩
        · exact ⟨q1, .inl q2⟩
      · rintro ⟨q1, q2 | q2⟩
        · exact .inr ⟨q1, q2⟩
        · simp only [List.map_cons, List.map_nil, List.mem_singleton] at q2
          exact .inl (by rw [← q2])
    · rw [if_neg hc]
      refine ih (j + 1) n out h3 (by simp at hn; omega) ha (by omega) fun x => ?_
      rw [ho, take_more hd, List.map_append, List.mem_append]
      constructor
      · rintro ⟨q1, q2⟩; exact ⟨q1, .inl q2⟩
      · rintro ⟨q1, q2 | q2⟩
        · exact ⟨q1, q2⟩
        · simp only [List.map_cons, List.map_nil, List.mem_singleton] at q2
          refine absurd ?_ hc
          have e1 : p.1.user = u := by rw [← q2]
          have e2 : p.1.client = x := by rw [← q2]
          rw [e1, e2]
          simp only [beq_self_eq_true, Bool.true_and, Bool.not_eq_true', List.isEmpty_eq_false_iff]
          exact q1
theorem rclients_eq {r : AL} (h : InvA r) (u : Str) (now : Int) {X : List Str} (hX : IsC r u now X) : ref32_Consents_Clients (rst r) u now = some X := by
  have hl := h.len
  unfold ref32_Consents_Clients
  rw [rmade_eq, Option.bind_some, if_neg (by simp)]
  have hF : r.length < fuel := by unfold fuel; omega
  exact rclients_loop h u now hX r 0 fuel [] rfl hF List.Pairwise.nil (by simp) (fun x => by simp)
/-! ### both at once -/
structure RelA (a r : AL) : Prop where
  keys : a.map Prod.fst = r.map Prod.fst
  ent : ∀ k, (old a k).Perm (old r k)
theorem RelA.some {a r : AL} (h : RelA a r) (k : consent_pair) : (mfind k a).isSome = (mfind k r).isSome := by
  rw [Bool.eq_iff_iff, find_keys, find_keys, h.keys]
theorem RelA.len {a r : AL} (h : RelA a r) : a.length = r.length := by
  have := congrArg List.length h.keys
  simpa using this
theorem RelA.lv {a r : AL} (h : RelA a r) (u c : Str) (now : Int) : (lv a u c now).Perm (lv r u c now) := ((h.ent ⟨u, c⟩).filter _).map _
theorem RelA.scS {a r : AL} (h : RelA a r) (u c : Str) (now : Int) : scS a u c now = scS r u c now := sorted_congr fun x => (h.lv u c now).mem_iff
theorem RelA.isC {a r : AL} (h : RelA a r) {u : Str} {now : Int} {X : List Str} (hX : IsC a u now X) : IsC r u now X :=
  ⟨hX.asc, fun x => (hX.mem x).trans ⟨fun hn e => hn ((h.lv u x now).trans (by rw [e])).eq_nil, fun hn e => hn (((h.lv u x now).symm).trans (by rw [e])).eq_nil⟩⟩
theorem RelA.grN {a r : AL} (h : RelA a r) (ha : InvA a) (u c : Str) (sc : List Str) (unt now : Int) : (grN a u c sc unt now).Perm (grN r u c sc unt now) :=
  (addAll_perm _ sc (live_good (ha.old _) _).nd ((h.ent ⟨u, c⟩).filter _)).2
theorem RelA.grE {a r : AL} (h : RelA a r) (ha : InvA a) (u c : Str) (sc : List Str) (unt now : Int) : grE a u c sc unt now = grE r u c sc unt now := by
  unfold S.grE
  rw [h.some, h.len, (h.grN ha u c sc unt now).length_eq]
theorem old_put (a : AL) (k j : consent_pair) (x : IL) : old (mputL k x a) j = if j = k then x else old a j := by
  unfold old
  rw [mfind_put]
  split <;> rfl
theorem old_del {a : AL} (hn : nodupK a) (k j : consent_pair) : old (mdelL k a) j = if j = k then [] else old a j := by
  unfold old
  rw [mfind_del hn]
  split <;> rfl
theorem old_others (a : AL) (u : Str) (j : consent_pair) : old (others u a) j = if j.user = u then [] else old a j := by
  unfold old
  rw [find_others]
  split <;> rfl
theorem RelA.gr {a r : AL} (h : RelA a r) (ha : InvA a) (u c : Str) (sc : List Str) (unt now : Int) : RelA (grL canonL a u c sc unt now) (grL id r u c sc unt now) := by
  unfold grL
  rw [h.grE ha]
  split
  · refine ⟨by rw [keys_put, keys_put, h.keys], fun k => ?_⟩
    rw [old_put, old_put]
    split
    · exact (canonL_perm _).trans (h.grN ha u c sc unt now)
    · exact h.ent k
  · exact h
theorem RelA.del {a r : AL} (h : RelA a r) (ha : InvA a) (hr : InvA r) (k : consent_pair) : RelA (mdelL k a) (mdelL k r) := by
  refine ⟨by rw [keys_del ha.nd, keys_del hr.nd, h.keys], fun j => ?_⟩
  rw [old_del ha.nd, old_del hr.nd]
  split
  · exact .refl _
  · exact h.ent j
theorem keys_others {V : Type} (u : Str) (l : List (consent_pair × V)) : (others u l).map Prod.fst = (l.map Prod.fst).filter fun k => !(k.user == u) := by
  unfold others
  rw [List.filter_map]; rfl
theorem RelA.others {a r : AL} (h : RelA a r) (u : Str) : RelA (others u a) (others u r) := by
  refine ⟨by rw [keys_others, keys_others, h.keys], fun j => ?_⟩
  rw [old_others, old_others]
  split
  · exact .refl _
  · exact h.ent j
/-! ### gates -/
def shortL (l : List Str) : Prop := l.length ≤ 20 ∧ ∀ s ∈ l, s.length ≤ 200
theorem shortL.sm {l : List Str} (h : shortL l) : sm l := ⟨by have := h.1; omega, fun s hs => by have := h.2 s hs; unfold fits; omega⟩
structure smallO (o : law32_Op) : Prop where
  usr : o.User.length ≤ 200
  cli : o.Client.length ≤ 200
  sc : shortL o.Scopes
theorem smallO.fu {o : law32_Op} (h : smallO o) : fits o.User := by have := h.usr; unfold fits; omega
theorem smallO.fc {o : law32_Op} (h : smallO o) : fits o.Client := by have := h.cli; unfold fits; omega
theorem light_two (r0 : List law32_Op → Int → Option (Bool)) (l : List law32_Op) (i : Nat) (o : law32_Op) (hi : l[i]? = some o) (hi' : i < 1000) (hs : o.Scopes.length ≤ 20) :
    ∀ (r : List Str) (k n : Nat), o.Scopes.drop k = r → r.length < n → (∀ s ∈ o.Scopes.take k, s.length ≤ 200) →
    law32_light_L2 r0 n l (i : Int) (k : Int) = some false ∨ (law32_light_L2 r0 n l (i : Int) (k : Int) = r0 l ((i + 1 : Nat) : Int) ∧ shortL o.Scopes) := by
  have hix : idx l (i : Int) = some o := by rw [idx_n, hi]
  intro r
  induction r with
  | nil =>
    intro k n hd hn ht
    obtain ⟨n, rfl⟩ : ∃ k, n = k + 1 := ⟨n - 1, by simp at hn; omega⟩
    have := drop_nil hd
    rw [List.take_of_length_le this] at ht
    unfold law32_light_L2
    rw [hix, Option.bind_some, if_neg (by simp; omega), w64n (show i < 9223372036854775807 by omega)]
    exact .inr ⟨rfl, hs, ht⟩
  | cons x r ih =>
    intro k n hd hn ht
    obtain ⟨n, rfl⟩ : ∃ k, n = k + 1 := ⟨n - 1, by simp at hn; omega⟩
    obtain ⟨h1, h2, h3⟩ := drop_more hd
    have hlt := drop_lt hd
    unfold law32_light_L2
    rw [hix, Option.bind_some, if_pos (by simp; omega), Option.bind_some, idx_n, h2, Option.bind_some]
    by_cases hx : x.length > 200
    · rw [if_pos (by simp; omega)]; exact .inl rfl
    · rw [if_neg (by simp; omega), w64n (show k < 9223372036854775807 by omega)]
      refine ih (k + 1) n h3 (by simp at hn; omega) fun s hs => ?_
      rw [take_more hd] at hs
      rcases List.mem_append.1 hs with hs | hs
      · exact ht s hs
      · simp at hs; subst hs; omega
theorem light_gate (l : List law32_Op) (hf : fits l) : law32_light l = some false ∨ (law32_light l = some true ∧ l.length ≤ 24 ∧ ∀ o ∈ l, smallO o) := by
  unfold fits at hf
  have key : ∀ (k i n : Nat), 24 - i = k → k < n → i ≤ 24 → i ≤ l.length → (∀ s ∈ l.take i, smallO s) → law32_light_L1 n l (i : Int) = some false ∨ (law32_light_L1 n l (i : Int) = some true ∧ l.length ≤ 24 ∧ ∀ o ∈ l, smallO o) := by
    intro k
    induction k with
    | zero =>
      intro i n hk hn h20 hi ht
      obtain ⟨n, rfl⟩ : ∃ k, n = k + 1 := ⟨n - 1, by omega⟩
      have e : i = 24 := by omega
      subst e
      unfold law32_light_L1
      rw [if_neg (by simp)]
      by_cases h : l.length ≤ 24
      · rw [List.take_of_length_le h] at ht
        exact .inr ⟨by simp; omega, h, ht⟩
      · exact .inl (by simp; omega)
    | succ k ih =>
      intro i n hk hn h20 hi ht
      obtain ⟨n, rfl⟩ : ∃ k, n = k + 1 := ⟨n - 1, by omega⟩
      unfold law32_light_L1
      by_cases hlt : i < l.length
      · have h2 : l[i]? = some l[i] := List.getElem?_eq_getElem hlt
        have hix : idx l (i : Int) = some l[i] := by rw [idx_n, h2]
        rw [if_pos (by simp; omega)]
        simp only [hix, Option.bind_some]
        by_cases h3 : l[i].User.length > 200
        · rw [if_pos (by simp; omega), Option.bind_some, if_pos rfl, Option.bind_some, if_pos rfl]; exact .inl rfl
        rw [if_neg (by simp; omega), Option.bind_some]
        by_cases h4 : l[i].Client.length > 200
        · rw [if_pos (by simp; omega), Option.bind_some, if_pos rfl]; exact .inl rfl
        rw [if_neg (by simp; omega), Option.bind_some]
        by_cases h5 : l[i].Scopes.length > 20
        · rw [if_pos (by simp; omega)]; exact .inl rfl
        rw [if_neg (by simp; omega)]
        have hF : l[i].Scopes.length < fuel := by unfold fuel; omega
        rcases light_two (law32_light_L1 n) l i l[i] h2 (by omega) (by omega) l[i].Scopes 0 fuel rfl hF (by simp) with h6 | ⟨h6, h7⟩
        · exact .inl h6
        · have h6' : law32_light_L2 (law32_light_L1 n) fuel l (i : Int) 0 = law32_light_L1 n l ((i + 1 : Nat) : Int) := h6
          rw [h6']
          refine ih (i + 1) n (by omega) (by omega) (by omega) (by omega) fun s hs => ?_
          rw [List.take_add_one, h2] at hs
          rcases List.mem_append.1 hs with hs | hs
          · exact ht s hs
          · simp at hs; subst hs; exact ⟨by omega, by omega, h7⟩
      · rw [if_neg (by simp; omega)]
        rw [List.take_of_length_le (by omega)] at ht
        by_cases h : l.length ≤ 24
        · exact .inr ⟨by simp; omega, h, ht⟩
        · exact .inl (by simp; omega)
  exact key 24 0 fuel rfl (by unfold fuel; omega) (by omega) (by omega) (by simp)
/-! ### one call -/
def doI (a : AL) (o : law32_Op) : Int :=
  if o.Call = 0 then grE a o.User o.Client o.Scopes o.Until o.Now else if o.Call = 1 then (if (mfind (⟨o.User, o.Client⟩ : consent_pair) a).isSome then 1 else 0)
  else if o.Call = 2 then (a.length : Int) - ((others o.User a).length : Int) else if within o.Scopes (scS a o.User o.Client o.Now) then 1 else 0
def doL (f : IL → IL) (a : AL) (o : law32_Op) : AL :=
  if o.Call = 0 then grL f a o.User o.Client o.Scopes o.Until o.Now else if o.Call = 1 then mdelL ⟨o.User, o.Client⟩ a else if o.Call = 2 then others o.User a else a
theorem inv_do {a : AL} (h : InvA a) (f : IL → IL) (hf : ∀ m : IL, m.Perm (f m)) (o : law32_Op) : InvA (doL f a o) := by
  unfold doL
  split
  · exact invA_gr h f hf _ _ _ _ _
  · split
    · exact invA_del h _
    · split
      · exact invA_others h _
      · exact h
theorem inv_doC {a : AL} (h : InvA a) (o : law32_Op) : InvA (doL canonL a o) := inv_do h canonL (fun m => (canonL_perm m).symm) o
theorem inv_doI {a : AL} (h : InvA a) (o : law32_Op) : InvA (doL id a o) := inv_do h id (fun m => .refl _) o
theorem yes_eq (b : Bool) : law32_yes b = some (if b then 1 else 0) := by cases b <;> rfl
theorem do_eq {a : AL} (h : InvA a) {o : law32_Op} (ho : smallO o) : law32_do ⟨some (cs a)⟩ o = some (doI a o, ⟨some (cs (doL canonL a o))⟩) := by
  unfold law32_do doI doL
  by_cases k0 : o.Call = 0
  · rw [if_pos (by simpa using k0), if_pos k0, if_pos k0, grant_eq h _ _ _ _ ho.fu ho.fc ho.sc.sm, Option.bind_some]
  rw [if_neg (by simpa using k0), if_neg k0, if_neg k0]
  by_cases k1 : o.Call = 1
  · rw [if_pos (by simpa using k1), if_pos k1, if_pos k1, revoke_eq, Option.bind_some, yes_eq, Option.bind_some]
  rw [if_neg (by simpa using k1), if_neg k1, if_neg k1]
  by_cases k2 : o.Call = 2
  · rw [if_pos (by simpa using k2), if_pos k2, if_pos k2, drop_eq h, Option.bind_some]
  rw [if_neg (by simpa using k2), if_neg k2, if_neg k2, covers_eq h _ _ ho.sc.sm, Option.bind_some, yes_eq, Option.bind_some]
theorem done_eq {r : AL} (h : InvA r) {o : law32_Op} (ho : smallO o) : law32_done (rst r) o = some (doI r o, rst (doL id r o)) := by
  unfold law32_done doI doL
  by_cases k0 : o.Call = 0
  · rw [if_pos (by simpa using k0), if_pos k0, if_pos k0, rgrant_eq h _ _ _ _ ho.fu ho.fc ho.sc.sm, Option.bind_some]
  rw [if_neg (by simpa using k0), if_neg k0, if_neg k0]
  by_cases k1 : o.Call = 1
  · rw [if_pos (by simpa using k1), if_pos k1, if_pos k1, rrevoke_eq h, Option.bind_some, yes_eq, Option.bind_some]
  rw [if_neg (by simpa using k1), if_neg k1, if_neg k1]
  by_cases k2 : o.Call = 2
  · rw [if_pos (by simpa using k2), if_pos k2, if_pos k2, rdrop_eq h, Option.bind_some]
  rw [if_neg (by simpa using k2), if_neg k2, if_neg k2, rcovers_eq h _ _ ho.sc.sm, Option.bind_some, yes_eq, Option.bind_some]
theorem RelA.doI {a r : AL} (h : RelA a r) (ha : InvA a) (o : law32_Op) : doI a o = doI r o := by
  unfold S.doI
  rw [h.grE ha, h.some, h.len, (h.others o.User).len, h.scS]
theorem RelA.doL {a r : AL} (h : RelA a r) (ha : InvA a) (hr : InvA r) (o : law32_Op) : RelA (doL canonL a o) (doL id r o) := by
  unfold S.doL
  split
  · exact h.gr ha _ _ _ _ _
  · split
    · exact h.del ha hr _
    · split
      · exact h.others _
      · exact h
theorem same_self (l : List Str) (h : l.length ≤ 1000) : ref03_Same l l = some true := by rw [ref03_Same_eq l l (by unfold fits; omega)]; simp
/-! ### every call -/
theorem plays_loop (ops : List law32_Op) (hf : ops.length ≤ 24) (ho : ∀ o ∈ ops, smallO o) (at_ : Int) :
    ∀ (s : List law32_Op) (i n : Nat) (a r : AL), ops.drop i = s → s.length < n → InvA a → InvA r → RelA a r → law32_ConsentPlays_L1 n ops at_ ⟨some (cs a)⟩ (rst r) (i : Int) = some true := by
  intro s
  induction s with
  | nil =>
    intro i n a r hd hn ha hr h
    obtain ⟨n, rfl⟩ : ∃ k, n = k + 1 := ⟨n - 1, by simp at hn; omega⟩
    have := drop_nil hd
    unfold law32_ConsentPlays_L1
    rw [if_neg (by simp; omega), awake32, Option.bind_some]
  | cons o s ih =>
    intro i n a r hd hn ha hr h
    obtain ⟨n, rfl⟩ : ∃ k, n = k + 1 := ⟨n - 1, by simp at hn; omega⟩
    obtain ⟨g1, g2, g3⟩ := drop_more hd
    have hlt := drop_lt hd
    have hoo := ho o (List.mem_of_getElem? g2)
    have hix : idx ops (i : Int) = some o := by rw [idx_n, g2]
    have ha2 := inv_doC ha o
    have hr2 := inv_doI hr o
    have h2 := h.doL ha hr o
    obtain ⟨X, hX⟩ := isC_exists ha2 o.User at_
    have hXl := isC_len hX
    have hl2 := ha2.len
    have s1 := (scS_sm hr2 o.User o.Client at_).1
    have s2 := (scS_sm hr2 o.User o.Client o.Now).1
    unfold law32_ConsentPlays_L1
    rw [if_pos (by simp; omega)]
    simp only [hix, Option.bind_some, do_eq ha hoo, done_eq hr hoo]
    rw [h.doI ha, if_neg (by simp), len_eq, rlen_eq, Option.bind_some, Option.bind_some, h2.len, if_neg (by simp), scopes_eq ha2, rscopes_eq hr2, Option.bind_some, Option.bind_some, h2.scS, same_self _ s1, Option.bind_some, if_neg (by simp),
      scopes_eq ha2, rscopes_eq hr2, Option.bind_some, Option.bind_some, h2.scS, same_self _ s2, Option.bind_some, if_neg (by simp), clients_eq ha2 _ _ hX, rclients_eq hr2 _ _ (h2.isC hX), Option.bind_some, Option.bind_some, same_self X (by omega), Option.bind_some]
    unfold law32_ConsentPlays_B2
    rw [if_neg (by simp), w64n (show i < 9223372036854775807 by omega)]
    exact ih (i + 1) n _ _ g3 (by simp at hn; omega) ha2 hr2 h2
theorem rel_nil : RelA [] [] := ⟨rfl, fun _ => .refl _⟩
theorem plays_true (ops : List law32_Op) (at_ : Int) (hf : fits ops) : law32_ConsentPlays ops at_ = some true := by
  unfold law32_ConsentPlays
  rcases light_gate ops hf with h | ⟨h, hm, hoo⟩
  · rw [h, Option.bind_some, if_pos (show (!false) = true from rfl), awake32, Option.bind_some]
  rw [h, Option.bind_some, if_neg (by simp)]
  show (some (consent_Consents.mk (some []))).bind _ = _
  rw [Option.bind_some]
  show (some (ref32_Consents.mk true [])).bind _ = _
  rw [Option.bind_some]
  exact plays_loop ops hm hoo at_ ops 0 fuel [] [] rfl (by unfold fuel; omega) invA_nil invA_nil rel_nil
def nd : List Str → Bool
  | [] => true
  | x :: r => !r.contains x && nd r
end Go.KW.S
