/- Own work: a part of the proofs of this seat. -/
import Derived.Test.YtibmfjehbmdbkaaKwPlain
import Derived.Test.YtibmfjehbmdbkaaKwMapP
import Derived.Test.YtibmfjehbmdbkaaKwHS
import Derived.KernelRfl
import Derived.Lib.IndexMore
import Derived.Lib.CountLaws
import Derived.Laws.RangeString
import Derived.Laws.RangeAny
set_option linter.unusedVariables false
set_option linter.unusedSimpArgs false
namespace Go.KW.S
open Go Go.KW
/-! ### words -/
def isW (c : Int) : Bool := (((decide (c ≥ 65) && decide (c ≤ 90)) || (decide (c ≥ 97) && decide (c ≤ 122))) || (decide (c ≥ 48) && decide (c ≤ 57))) || c == 45 || c == 95 || c == 46 || c == 58
def word (s : Str) : Bool := s.all (fun u => isW u.toNat) && (decide (1 ≤ s.length) && decide (s.length ≤ 64))

theorem fold_Word_1_eq (c : Int) : fold_Word_1 c = some (isW c) := by
  simp only [fold_Word_1, fold_letter, fold_upper, fold_digit, isW, Option.bind_some]
  cases (decide (c ≥ 65) && decide (c ≤ 90)) <;> cases (decide (c ≥ 97) && decide (c ≤ 122)) <;> simp
theorem fold_made_eq (s : Str) (hs : fits s) : fold_made__Word_1 s = some (word s) := by
  have key : ∀ (r : Str) (i n : Nat), s.drop i = r → i ≤ s.length → r.length < n →
      fold_made__Word_1_L1 n s (s.length : Int) (i : Int) = some (r.all (fun u => isW u.toNat) && (decide (1 ≤ s.length) && decide (s.length ≤ 64))) := by
    intro r
    induction r with
    | nil =>
      intro i n hd hi hn
      obtain ⟨n, rfl⟩ : ∃ k, n = k + 1 := ⟨n - 1, by simp at hn; omega⟩
      have := drop_nil hd
      simp only [fold_made__Word_1_L1, show ¬ ((i : Int) < s.length) by omega, decide_false, Bool.false_eq_true, if_false, List.all_nil, Bool.true_and, Option.some.injEq]
      rw [Bool.eq_iff_iff]; cases s <;> simp <;> omega
    | cons u r ih =>
      intro i n hd hi hn
      obtain ⟨n, rfl⟩ : ∃ k, n = k + 1 := ⟨n - 1, by simp at hn; omega⟩
      obtain ⟨h1, h2, h3⟩ := drop_more hd
      have hlt := drop_lt hd
      have := hs; unfold fits at this
      simp only [fold_made__Word_1_L1, show ((i : Int) < s.length) by omega, decide_true, if_true, inb_n, h1, chk_true, byteAt_some h2, fold_Word_1_eq, Option.bind_some, w64n (show i < 9223372036854775807 by omega), List.all_cons]
      cases isW u.toNat with
      | false => simp
      | true => simpa using ih (i + 1) n h3 (by omega) (by simp at hn; omega)
  exact key s 0 fuel rfl (by omega) (fuel_pos hs)
theorem fold_Word_eq (s : Str) (hs : fits s) : fold_Word s = some (word s) := by
  simp [fold_Word, fold_made_eq s hs]

theorem ref01_Word_eq (s : Str) (hs : fits s) : ref01_Word s = some (word s) := by
  have key : ∀ (r : Str) (i n : Nat), s.drop i = r → i ≤ s.length → r.length < n →
      ref01_Word_L1 n s (i : Int) = some (r.all (fun u => isW u.toNat) && (decide (1 ≤ s.length) && decide (s.length ≤ 64))) := by
    intro r
    induction r with
    | nil =>
      intro i n hd hi hn
      obtain ⟨n, rfl⟩ : ∃ k, n = k + 1 := ⟨n - 1, by simp at hn; omega⟩
      have := drop_nil hd
      simp only [ref01_Word_L1, show ¬ ((i : Int) < s.length) by omega, decide_false, Bool.false_eq_true, if_false, List.all_nil, Bool.true_and, Option.some.injEq]
      rw [Bool.eq_iff_iff]; simp; omega
    | cons u r ih =>
      intro i n hd hi hn
      obtain ⟨n, rfl⟩ : ∃ k, n = k + 1 := ⟨n - 1, by simp at hn; omega⟩
      obtain ⟨h1, h2, h3⟩ := drop_more hd
      have hlt := drop_lt hd
      have := hs; unfold fits at this
      have ih' := ih (i + 1) n h3 (by omega) (by simp at hn; omega)
      have e : isW u.toNat = ((((((decide ((u.toNat : Int) ≥ 65) && decide ((u.toNat : Int) ≤ 90)) || (decide ((u.toNat : Int) ≥ 97) && decide ((u.toNat : Int) ≤ 122))) || (decide ((u.toNat : Int) ≥ 48) && decide ((u.toNat : Int) ≤ 57))) || (u.toNat : Int) == 45) || (u.toNat : Int) == 95) || (u.toNat : Int) == 46 || (u.toNat : Int) == 58) := by
        simp [isW, Bool.or_assoc]
      simp only [ref01_Word_L1, show ((i : Int) < s.length) by omega, decide_true, if_true, inb_n, h1, chk_true, byteAt_some h2, ref01_letter, ref01_digit, Option.bind_some, w64n (show i < 9223372036854775807 by omega), List.all_cons, ih', e, bne]
      generalize (r.all fun u => isW u.toNat) = q
      generalize (decide ((u.toNat : Int) ≥ 97) && decide ((u.toNat : Int) ≤ 122)) = a
      generalize (decide ((u.toNat : Int) ≥ 65) && decide ((u.toNat : Int) ≤ 90)) = b
      generalize (decide ((u.toNat : Int) ≥ 48) && decide ((u.toNat : Int) ≤ 57)) = c
      generalize ((u.toNat : Int) == 45) = d
      generalize ((u.toNat : Int) == 95) = e1
      generalize ((u.toNat : Int) == 46) = f
      generalize ((u.toNat : Int) == 58) = g
      cases a <;> cases b <;> cases c <;> cases d <;> cases e1 <;> cases f <;> cases g <;> simp
  exact key s 0 fuel rfl (by omega) (fuel_pos hs)
/-- an instant by Rule 6 -/
def lim (t : Int) : Int := gmin (gmax t 0) 1099511627776
theorem lim_range (t : Int) : 0 ≤ lim t ∧ lim t ≤ 1099511627776 := by unfold lim gmin gmax; split <;> split <;> omega
theorem lim_eq (t : Int) : gmax 0 (gmin t 1099511627776) = lim t := by unfold lim gmin gmax; repeat' split <;> omega
theorem lim_val (t : Int) : lim t = if t < 0 then 0 else if t > 1099511627776 then 1099511627776 else t := by unfold lim gmin gmax; repeat' split <;> omega
/-- two dots in a row -/
def dots : Str → Bool
  | a :: b :: r => (a == 46 && b == 46) || dots (b :: r)
  | _ => false
def valid (s : Str) : Bool := word s && !(s.head? == some 46) && !(s.getLast? == some 46) && !dots s
theorem contains_dots (s : Str) : Lib.contains s [46, 46] = dots s := by
  have key : ∀ s : Str, (decide (0 ≤ Lib.index s [46, 46]) = dots s) ∧ -1 ≤ Lib.index s [46, 46] := by
    intro s
    induction s with
    | nil => exact ⟨rfl, by decide⟩
    | cons a r ih =>
      obtain ⟨ih1, ih2⟩ := ih
      have hi : Lib.index (a :: r) [46, 46] = if ([46, 46] : Str).isPrefixOf (a :: r) then 0 else if Lib.index r [46, 46] == -1 then -1 else Lib.index r [46, 46] + 1 := by
        simp only [Lib.index]
      have hp : ([46, 46] : Str).isPrefixOf (a :: r) = (a == 46 && r.head? == some 46) := by
        cases r with
        | nil => simp [List.isPrefixOf]
        | cons b r => simp [List.isPrefixOf, Bool.beq_comm]
      have hd : dots (a :: r) = ((a == 46 && r.head? == some 46) || dots r) := by
        cases r with
        | nil => simp [dots]
        | cons b r => simp [dots]
      rw [hi, hp, hd, ← ih1]
      cases (a == 46 && r.head? == some 46) with
      | true => simp
      | false =>
        simp only [Bool.false_eq_true, if_false, Bool.false_or]
        by_cases h : Lib.index r [46, 46] = -1
        · rw [h]; simp
        · have h' : (Lib.index r [46, 46] == -1) = false := by simpa using h
          rw [h']
          simp only [Bool.false_eq_true, if_false]
          refine ⟨?_, by omega⟩
          rw [Bool.eq_iff_iff]; simp; omega
  exact (key s).1
theorem u8_eq (u : UInt8) (k : Nat) (hk : k < 256) : ((u.toNat : Int) == (k : Int)) = (u == UInt8.ofNat k) := by
  rw [Bool.eq_iff_iff, beq_iff_eq, beq_iff_eq]
  constructor
  · intro h
    have : u.toNat = k := by omega
    exact UInt8.toNat_inj.1 (by rw [this, UInt8.toNat_ofNat_of_lt' (by simpa using hk)])
  · rintro rfl
    rw [UInt8.toNat_ofNat_of_lt' (by simpa using hk)]
theorem u8_46 (u : UInt8) : ((u.toNat : Int) == 46) = (u == 46) := u8_eq u 46 (by decide)
theorem byteAt_first {s : Str} (h : 1 ≤ s.length) : (byteAt s 0 == 46) = (s.head? == some 46) := by
  cases s with
  | nil => simp at h
  | cons a r =>
    have : byteAt (a :: r) 0 = (a.toNat : Int) := by simp [byteAt]
    rw [this, u8_46]; simp
theorem byteAt_end {s : Str} (h : 1 ≤ s.length) : (byteAt s (((s.length - 1 : Nat) : Int)) == 46) = (s.getLast? == some 46) := by
  have h1 : s[s.length - 1]? = some s[s.length - 1] := List.getElem?_eq_getElem (by omega)
  rw [byteAt_some h1, u8_46, List.getLast?_eq_getElem?, h1]; simp
theorem word_len {s : Str} (h : word s = true) : 1 ≤ s.length ∧ s.length ≤ 64 := by
  simp only [word, Bool.and_eq_true, decide_eq_true_eq] at h; exact h.2
theorem word_fits {s : Str} (h : word s = true) : fits s := by have := word_len h; unfold fits; omega
theorem last_ix {s : Str} (h : 1 ≤ s.length ∧ s.length ≤ 64) : IntKind.i64.wrap ((s.length : Int) - 1) = ((s.length - 1 : Nat) : Int) := by
  rw [w64 (by omega) (by omega)]; omega
theorem inb_0 {n : Nat} (h : 1 ≤ n) : inb 0 n = true := by simp [inb] <;> omega
theorem scope_valid_eq (s : Str) (hs : fits s) : scope_valid s = some (valid s) := by
  unfold scope_valid valid
  rw [fold_Word_eq s hs, Option.bind_some]
  cases hw : word s with
  | false => simp
  | true =>
    have hl := word_len hw
    simp only [if_true, inb_0 hl.1, chk_true, Option.bind_some, bne, byteAt_first hl.1, last_ix hl, Bool.true_and]
    cases s.head? == some 46 with
    | true => simp
    | false =>
      have h2 : inb ((s.length - 1 : Nat) : Int) s.length = true := by rw [inb_n]; simp; omega
      simp only [Bool.not_false, if_true, h2, chk_true, byteAt_end hl.1, Option.bind_some, Bool.true_and]
      cases s.getLast? == some 46 with
      | true => simp
      | false =>
        have h3 : decide (s.length < 4294967281) = true := by simp; omega
        simp only [Bool.not_false, if_true, lib_Contains, h3, chk_true, Option.bind_some, contains_dots, Bool.true_and]
theorem ref29_Valid_L1_eq (s : Str) (hs : s.length ≤ 64) : ∀ (r : Str) (i n : Nat) (p : UInt8), s.drop i = p :: r → r.length < n →
    ref29_Valid_L1 n s ((i + 1 : Nat) : Int) = some (!dots (p :: r)) := by
  intro r
  induction r with
  | nil =>
    intro i n p hd hn
    obtain ⟨n, rfl⟩ : ∃ k, n = k + 1 := ⟨n - 1, by simp at hn; omega⟩
    have := drop_nil (drop_more hd).2.2
    simp [ref29_Valid_L1, show ¬ ((i : Int) + 1 < s.length) by omega, dots]
  | cons u r ih =>
    intro i n p hd hn
    obtain ⟨n, rfl⟩ : ∃ k, n = k + 1 := ⟨n - 1, by simp at hn; omega⟩
    obtain ⟨g1, g2, g3⟩ := drop_more hd
    obtain ⟨h1, h2, h3⟩ := drop_more g3
    have hlt := drop_lt g3
    have ih' := ih (i + 1) n u g3 (by simp at hn; omega)
    have e : IntKind.i64.wrap (((i + 1 : Nat) : Int) - 1) = (i : Int) := by rw [w64 (by omega) (by omega)]; omega
    simp only [ref29_Valid_L1, show (((i + 1 : Nat) : Int) < s.length) by omega, decide_true, if_true, inb_n, h1, g1, chk_true, byteAt_some h2, e, byteAt_some g2, w64n (show i + 1 < 9223372036854775807 by omega), ih', u8_46, Option.bind_some]
    have hd : dots (p :: u :: r) = ((p == 46 && u == 46) || dots (u :: r)) := rfl
    rw [hd]
    generalize dots (u :: r) = q
    cases u == 46 <;> cases p == 46 <;> simp
theorem ref29_Valid_eq (s : Str) (hs : fits s) : ref29_Valid s = some (valid s) := by
  unfold ref29_Valid valid
  rw [ref01_Word_eq s hs, Option.bind_some]
  cases hw : word s with
  | false => simp
  | true =>
    have hl := word_len hw
    have h2 : inb ((s.length - 1 : Nat) : Int) s.length = true := by rw [inb_n]; simp; omega
    simp only [Bool.not_true, Bool.false_eq_true, if_false, inb_0 hl.1, chk_true, Option.bind_some, byteAt_first hl.1, last_ix hl, Bool.true_and, h2, byteAt_end hl.1]
    cases s.head? == some 46 with
    | true => simp
    | false =>
      simp only [Bool.false_eq_true, if_false, Option.bind_some]
      cases s.getLast? == some 46 with
      | true => simp
      | false =>
        obtain ⟨p, r, rfl⟩ : ∃ p r, s = p :: r := by
          cases s with
          | nil => simp at hl
          | cons p r => exact ⟨p, r, rfl⟩
        have := ref29_Valid_L1_eq (p :: r) hl.2 r 0 fuel p rfl (by simp at hl; unfold fuel; omega)
        simpa using this
/-- where a string is first found -/
def ixOf (v : Str) : Nat → List Str → Int
  | _, [] => -1
  | i, x :: r => if v == x then i else ixOf v (i + 1) r
theorem slices_Index_eq (l : List Str) (v : Str) (hl : fits l) : slices_Index_string_string l v = some (ixOf v 0 l) := by
  have key : ∀ (r : List Str) (i n : Nat), l.drop i = r → i ≤ l.length → r.length < n →
      slices_Index_string_string_L1 n l v (l.length : Int) (i : Int) = some (ixOf v i r) := by
    intro r
    induction r with
    | nil =>
      intro i n hd hi hn
      obtain ⟨n, rfl⟩ : ∃ k, n = k + 1 := ⟨n - 1, by simp at hn; omega⟩
      have := drop_nil hd
      simp [slices_Index_string_string_L1, show ¬ ((i : Int) < l.length) by omega, ixOf]
    | cons x r ih =>
      intro i n hd hi hn
      obtain ⟨n, rfl⟩ : ∃ k, n = k + 1 := ⟨n - 1, by simp at hn; omega⟩
      obtain ⟨h1, h2, h3⟩ := drop_more hd
      have hlt := drop_lt hd
      have := hl; unfold fits at this
      simp only [slices_Index_string_string_L1, show ((i : Int) < l.length) by omega, decide_true, if_true, idx_n, h2, Option.bind_some, w64n (show i < 9223372036854775807 by omega), ih (i + 1) n h3 (by omega) (by simp at hn; omega), ixOf]
      cases v == x <;> simp
  exact key l 0 fuel rfl (by omega) (fuel_pos hl)
theorem ixOf_pos (v : Str) : ∀ (r : List Str) (i : Nat), decide (ixOf v i r ≥ 0) = r.contains v
  | [], _ => by simp [ixOf]
  | x :: r, i => by
    unfold ixOf
    rw [List.contains_cons]
    cases h : v == x with
    | true => simp
    | false => simpa using ixOf_pos v r (i + 1)
theorem slices_Contains_eq (l : List Str) (v : Str) (hl : fits l) : slices_Contains_string_string l v = some (l.contains v) := by
  simp only [slices_Contains_string_string, slices_Index_eq l v hl, Option.bind_some, ixOf_pos]
/-- the first error of a list of scopes, p being those before -/
def ckL : List Str → List Str → Int
  | _, [] => 0
  | p, x :: r => if !valid x then 5 else if p.contains x then 7 else ckL (p ++ [x]) r
def ck (l : List Str) : Int := if decide ((l.length : Int) > 16) then 3 else ckL [] l
/-- each string can be held -/
def fitsAll (l : List Str) : Prop := ∀ s ∈ l, fits s
theorem fitsAll_at {l : List Str} (h : fitsAll l) {i : Nat} {x : Str} (hx : l[i]? = some x) : fits x := h x (List.mem_of_getElem? hx)
theorem take_len {T : Type} {l : List T} {i : Nat} (h : i < l.length) : (l.take i).length = i := by simp; omega
theorem scope_Check_eq (l : List Str) (hl : fitsAll l) : scope_Check l = some (ck l) := by
  unfold scope_Check ck
  by_cases h16 : (l.length : Int) > 16
  · simp [h16]
  · simp only [h16, decide_false, Bool.false_eq_true, if_false]
    have key : ∀ (r : List Str) (i n : Nat), l.drop i = r → i ≤ l.length → r.length < n → scope_Check_L1 n l l (l.length : Int) (i : Int) = some (ckL (l.take i) r) := by
      intro r
      induction r with
      | nil =>
        intro i n hd hi hn
        obtain ⟨n, rfl⟩ : ∃ k, n = k + 1 := ⟨n - 1, by simp at hn; omega⟩
        have := drop_nil hd
        simp [scope_Check_L1, show ¬ ((i : Int) < l.length) by omega, ckL]
      | cons x r ih =>
        intro i n hd hi hn
        obtain ⟨n, rfl⟩ : ∃ k, n = k + 1 := ⟨n - 1, by simp at hn; omega⟩
        obtain ⟨h1, h2, h3⟩ := drop_more hd
        have hlt := drop_lt hd
        have hi' : inc 0 (i : Int) l.length = true := by rw [inc_0]; simp; omega
        have hft : fits (l.take i) := by unfold fits; rw [take_len hlt]; omega
        simp only [scope_Check_L1, show ((i : Int) < l.length) by omega, decide_true, if_true, idx_n, h2, Option.bind_some, scope_valid_eq x (fitsAll_at hl h2), hi', chk_true, cut_0, slices_Contains_eq _ _ hft, w64n (show i < 9223372036854775807 by omega), ih (i + 1) n h3 (by omega) (by simp at hn; omega), ckL, take_more hd]
        cases valid x <;> cases (l.take i).contains x <;> simp
    exact key l 0 fuel rfl (by omega) (by unfold fuel; omega)
theorem ref29_Check_eq (l : List Str) (hl : fitsAll l) : ref29_Check l = some (ck l) := by
  unfold ref29_Check ck
  by_cases h16 : (l.length : Int) > 16
  · simp [h16]
  · simp only [h16, decide_false, Bool.false_eq_true, if_false]
    have inner : ∀ (r0 : List Str → Int → Option Int) (i : Nat) (x : Str), l[i]? = some x → ∀ (q : List Str) (k n : Nat), (l.take i).drop k = q → k ≤ i → q.length < n →
        ref29_Check_L2 r0 n l (i : Int) (k : Int) = if q.contains x then some 7 else r0 l ((i + 1 : Nat) : Int) := by
      intro r0 i x hx q
      have hlt : i < l.length := (List.getElem?_eq_some_iff.1 hx).1
      have htl := take_len hlt
      induction q with
      | nil =>
        intro k n hd hk hn
        obtain ⟨n, rfl⟩ : ∃ k, n = k + 1 := ⟨n - 1, by simp at hn; omega⟩
        have := drop_nil hd
        simp only [ref29_Check_L2, show ¬ ((k : Int) < i) by omega, decide_false, Bool.false_eq_true, if_false, w64n (show i < 9223372036854775807 by omega)]
        simp
      | cons y q ih =>
        intro k n hd hk hn
        obtain ⟨n, rfl⟩ : ∃ k, n = k + 1 := ⟨n - 1, by simp at hn; omega⟩
        obtain ⟨h1, h2, h3⟩ := drop_more hd
        have hkl := drop_lt hd
        have h2' : l[k]? = some y := by rw [List.getElem?_take_of_lt (by omega)] at h2; exact h2
        simp only [ref29_Check_L2, show ((k : Int) < i) by omega, decide_true, if_true, idx_n, h2', hx, Option.bind_some, w64n (show k < 9223372036854775807 by omega), ih (k + 1) n h3 (by omega) (by simp at hn; omega), List.contains_cons]
        rw [Bool.beq_comm (a := x) (b := y)]
        cases h : y == x <;> simp [h]
    have key : ∀ (r : List Str) (i n : Nat), l.drop i = r → i ≤ l.length → r.length < n → ref29_Check_L1 n l (i : Int) = some (ckL (l.take i) r) := by
      intro r
      induction r with
      | nil =>
        intro i n hd hi hn
        obtain ⟨n, rfl⟩ : ∃ k, n = k + 1 := ⟨n - 1, by simp at hn; omega⟩
        have := drop_nil hd
        simp [ref29_Check_L1, show ¬ ((i : Int) < l.length) by omega, ckL]
      | cons x r ih =>
        intro i n hd hi hn
        obtain ⟨n, rfl⟩ : ∃ k, n = k + 1 := ⟨n - 1, by simp at hn; omega⟩
        obtain ⟨h1, h2, h3⟩ := drop_more hd
        have hlt := drop_lt hd
        have hin := inner (ref29_Check_L1 n) i x h2 (l.take i) 0 fuel rfl (by omega) (by rw [take_len hlt]; unfold fuel; omega)
        simp only [ref29_Check_L1, show ((i : Int) < l.length) by omega, decide_true, if_true, idx_n, h2, Option.bind_some, ref29_Valid_eq x (fitsAll_at hl h2), ckL]
        have hin' : ref29_Check_L2 (ref29_Check_L1 n) fuel l (i : Int) 0 = if (l.take i).contains x then some 7 else ref29_Check_L1 n l ((i + 1 : Nat) : Int) := hin
        rw [hin', ih (i + 1) n h3 (by omega) (by simp at hn; omega), take_more hd]
        cases valid x <;> cases (l.take i).contains x <;> simp
    exact key l 0 fuel rfl (by omega) (by unfold fuel; omega)
theorem ckL_ok {l : List Str} : ∀ p : List Str, ckL p l = 0 → ∀ s ∈ l, valid s = true := by
  induction l with
  | nil => intro p _ s hs; cases hs
  | cons x r ih =>
    intro p h s hs
    unfold ckL at h
    cases hv : valid x with
    | false => simp [hv] at h
    | true =>
      simp only [hv, Bool.not_true, Bool.false_eq_true, if_false] at h
      split at h
      · cases h
      · rcases List.mem_cons.1 hs with rfl | hs
        · exact hv
        · exact ih _ h s hs
theorem valid_word {s : Str} (h : valid s = true) : word s = true := by simp only [valid, Bool.and_eq_true] at h; exact h.1.1.1
theorem ck_ok {l : List Str} (h : ck l = 0) : l.length ≤ 16 ∧ ckL [] l = 0 := by
  unfold ck at h
  by_cases h16 : (l.length : Int) > 16
  · simp [h16] at h
  · simp only [h16, decide_false, Bool.false_eq_true, if_false] at h
    exact ⟨by omega, h⟩
/-! ### one scope within another -/
def pre (a b : Str) : Bool := decide (b.length > a.length) && (b.take (a.length + 1) == a ++ [46])
def imp (a b : Str) : Bool := (valid a && valid b) && (a == b || pre a b)
theorem valid_len {s : Str} (h : valid s = true) : 1 ≤ s.length ∧ s.length ≤ 64 := word_len (valid_word h)
theorem pre_prefix (a b : Str) (hl : a.length ≤ 64) (hb : b.length ≤ 64) : strings_HasPrefix b (a ++ [46]) = some (pre a b) := by
  have e : (a ++ [46]).length = a.length + 1 := by simp
  unfold strings_HasPrefix internal_stringslite_HasPrefix pre
  rw [e]
  by_cases h : b.length > a.length
  · have h1 : inc 0 ((a.length + 1 : Nat) : Int) b.length = true := by rw [inc_0]; simp; omega
    simp only [show ((b.length : Int) ≥ ((a.length + 1 : Nat) : Int)) by omega, decide_true, if_true, h1, chk_true, cut_0, Option.bind_some, h, Bool.true_and]
  · have h0 : decide ((b.length : Int) ≥ ((a.length + 1 : Nat) : Int)) = false := by simp; omega
    simp only [h0, Bool.false_eq_true, if_false, Option.bind_some, h, decide_false, Bool.false_and]
theorem scope_Implies_eq (a b : Str) (ha : fits a) (hb : fits b) : scope_Implies a b = some (imp a b) := by
  unfold scope_Implies imp
  rw [scope_valid_eq a ha, scope_valid_eq b hb, Option.bind_some]
  cases va : valid a with
  | false => simp
  | true =>
    cases vb : valid b with
    | false => simp
    | true =>
      have la := valid_len va
      have lb := valid_len vb
      have hf : fitS a [46] = true := by simp [fitS]; omega
      simp only [if_true, Option.bind_some, Bool.true_and, hf, chk_true, pre_prefix a b la.2 lb.2]
      cases a == b <;> simp
theorem ref29_Implies_eq (a b : Str) (ha : fits a) (hb : fits b) : ref29_Implies a b = some (imp a b) := by
  unfold ref29_Implies imp
  rw [ref29_Valid_eq a ha, ref29_Valid_eq b hb, Option.bind_some]
  cases va : valid a with
  | false => simp
  | true =>
    cases vb : valid b with
    | false => simp
    | true =>
      have la := valid_len va
      have lb := valid_len vb
      have hf : fitS a [46] = true := by simp [fitS]; omega
      simp only [if_true, Option.bind_some, Bool.true_and, hf, chk_true, w64n (show a.length < 9223372036854775807 by omega), cut_0, pre]
      cases a == b with
      | true => simp
      | false =>
        by_cases h : b.length > a.length
        · have h1 : inc 0 ((a.length + 1 : Nat) : Int) b.length = true := by rw [inc_0]; simp; omega
          simp only [Bool.false_eq_true, if_false, show ((b.length : Int) > (a.length : Int)) by omega, decide_true, if_true, h1, chk_true, Option.bind_some, h, Bool.true_and, Bool.false_or]
        · simp [show ¬ ((b.length : Int) > (a.length : Int)) by omega, h]

def cov (l : List Str) (s : Str) : Bool := l.any fun t => imp t s
def within (a b : List Str) : Bool := a.all fun x => cov b x
/-- few enough strings that can be held -/
def sm (l : List Str) : Prop := l.length ≤ 1000 ∧ fitsAll l
theorem sm.at {l : List Str} (h : sm l) {i : Nat} {x : Str} (hx : l[i]? = some x) : fits x := fitsAll_at h.2 hx
theorem scope_covered_eq (s : Str) (l : List Str) (hs : fits s) (hl : sm l) : scope_covered s l = some (cov l s) := by
  have key : ∀ (r : List Str) (i n : Nat), l.drop i = r → i ≤ l.length → r.length < n → scope_covered_L1 n s l (l.length : Int) (i : Int) = some (r.any fun t => imp t s) := by
    have := hl.1
    intro r
    induction r with
    | nil =>
      intro i n hd hi hn
      obtain ⟨n, rfl⟩ : ∃ k, n = k + 1 := ⟨n - 1, by simp at hn; omega⟩
      have := drop_nil hd
      simp [scope_covered_L1, show ¬ ((i : Int) < l.length) by omega]
    | cons x r ih =>
      intro i n hd hi hn
      obtain ⟨n, rfl⟩ : ∃ k, n = k + 1 := ⟨n - 1, by simp at hn; omega⟩
      obtain ⟨h1, h2, h3⟩ := drop_more hd
      have hlt := drop_lt hd
      simp only [scope_covered_L1, show ((i : Int) < l.length) by omega, decide_true, if_true, idx_n, h2, Option.bind_some, scope_Implies_eq x s (hl.at h2) hs, w64n (show i < 9223372036854775807 by omega), ih (i + 1) n h3 (by omega) (by simp at hn; omega), List.any_cons]
      cases imp x s <;> simp
  exact key l 0 fuel rfl (by omega) (by have := hl.1; unfold fuel; omega)
theorem ref29_covers_eq (l : List Str) (s : Str) (hl : sm l) (hs : fits s) : ref29_covers l s = some (cov l s) := by
  have key : ∀ (r : List Str) (i n : Nat), l.drop i = r → i ≤ l.length → r.length < n → ref29_covers_L1 n l s (i : Int) = some (r.any fun t => imp t s) := by
    have := hl.1
    intro r
    induction r with
    | nil =>
      intro i n hd hi hn
      obtain ⟨n, rfl⟩ : ∃ k, n = k + 1 := ⟨n - 1, by simp at hn; omega⟩
      have := drop_nil hd
      simp [ref29_covers_L1, show ¬ ((i : Int) < l.length) by omega]
    | cons x r ih =>
      intro i n hd hi hn
      obtain ⟨n, rfl⟩ : ∃ k, n = k + 1 := ⟨n - 1, by simp at hn; omega⟩
      obtain ⟨h1, h2, h3⟩ := drop_more hd
      have hlt := drop_lt hd
      simp only [ref29_covers_L1, show ((i : Int) < l.length) by omega, decide_true, if_true, idx_n, h2, Option.bind_some, ref29_Implies_eq x s (hl.at h2) hs, w64n (show i < 9223372036854775807 by omega), ih (i + 1) n h3 (by omega) (by simp at hn; omega), List.any_cons]
      cases imp x s <;> simp
  exact key l 0 fuel rfl (by omega) (by have := hl.1; unfold fuel; omega)
theorem scope_Within_eq (a b : List Str) (ha : sm a) (hb : sm b) : scope_Within a b = some (within a b) := by
  have key : ∀ (r : List Str) (i n : Nat), a.drop i = r → i ≤ a.length → r.length < n → scope_Within_L1 n b a (a.length : Int) (i : Int) = some (r.all fun x => cov b x) := by
    have := ha.1
    intro r
    induction r with
    | nil =>
      intro i n hd hi hn
      obtain ⟨n, rfl⟩ : ∃ k, n = k + 1 := ⟨n - 1, by simp at hn; omega⟩
      have := drop_nil hd
      simp [scope_Within_L1, show ¬ ((i : Int) < a.length) by omega]
    | cons x r ih =>
      intro i n hd hi hn
      obtain ⟨n, rfl⟩ : ∃ k, n = k + 1 := ⟨n - 1, by simp at hn; omega⟩
      obtain ⟨h1, h2, h3⟩ := drop_more hd
      have hlt := drop_lt hd
      simp only [scope_Within_L1, show ((i : Int) < a.length) by omega, decide_true, if_true, idx_n, h2, Option.bind_some, scope_covered_eq x b (ha.at h2) hb, w64n (show i < 9223372036854775807 by omega), ih (i + 1) n h3 (by omega) (by simp at hn; omega), List.all_cons]
      cases cov b x <;> simp
  exact key a 0 fuel rfl (by omega) (by have := ha.1; unfold fuel; omega)
theorem ref29_Within_eq (a b : List Str) (ha : sm a) (hb : sm b) : ref29_Within a b = some (within a b) := by
  have key : ∀ (r : List Str) (i n : Nat), a.drop i = r → i ≤ a.length → r.length < n → ref29_Within_L1 n a b (i : Int) = some (r.all fun x => cov b x) := by
    have := ha.1
    intro r
    induction r with
    | nil =>
      intro i n hd hi hn
      obtain ⟨n, rfl⟩ : ∃ k, n = k + 1 := ⟨n - 1, by simp at hn; omega⟩
      have := drop_nil hd
      simp [ref29_Within_L1, show ¬ ((i : Int) < a.length) by omega]
    | cons x r ih =>
      intro i n hd hi hn
      obtain ⟨n, rfl⟩ : ∃ k, n = k + 1 := ⟨n - 1, by simp at hn; omega⟩
      obtain ⟨h1, h2, h3⟩ := drop_more hd
      have hlt := drop_lt hd
      simp only [ref29_Within_L1, show ((i : Int) < a.length) by omega, decide_true, if_true, idx_n, h2, Option.bind_some, ref29_covers_eq b x hb (ha.at h2), w64n (show i < 9223372036854775807 by omega), ih (i + 1) n h3 (by omega) (by simp at hn; omega), List.all_cons]
      cases cov b x <;> simp
  exact key a 0 fuel rfl (by omega) (by have := ha.1; unfold fuel; omega)
theorem ref03_Same_eq (a b : List Str) (ha : fits a) : ref03_Same a b = some (a == b) := by
  unfold ref03_Same
  by_cases hlen : a.length = b.length
  · have h0 : ((a.length : Int) != (b.length : Int)) = false := by simp [hlen]
    simp only [h0, Bool.false_eq_true, if_false]
    have key : ∀ (r q : List Str) (i n : Nat), a.drop i = r → b.drop i = q → i ≤ a.length → r.length < n → ref03_Same_L1 n a b (i : Int) = some (r == q) := by
      unfold fits at ha
      intro r
      induction r with
      | nil =>
        intro q i n hd hq hi hn
        obtain ⟨n, rfl⟩ : ∃ k, n = k + 1 := ⟨n - 1, by simp at hn; omega⟩
        have := drop_nil hd
        have hq' : q = [] := by rw [← hq]; simp; omega
        subst hq'
        simp [ref03_Same_L1, show ¬ ((i : Int) < a.length) by omega]
      | cons x r ih =>
        intro q i n hd hq hi hn
        obtain ⟨n, rfl⟩ : ∃ k, n = k + 1 := ⟨n - 1, by simp at hn; omega⟩
        obtain ⟨h1, h2, h3⟩ := drop_more hd
        have hlt := drop_lt hd
        cases q with
        | nil => have := drop_nil hq; omega
        | cons y q =>
          obtain ⟨g1, g2, g3⟩ := drop_more hq
          simp only [ref03_Same_L1, show ((i : Int) < a.length) by omega, decide_true, if_true, idx_n, h2, g2, Option.bind_some, w64n (show i < 9223372036854775807 by omega), ih q (i + 1) n h3 g3 (by omega) (by simp at hn; omega), List.cons_beq_cons]
          cases x == y <;> simp
    exact key a b 0 fuel rfl rfl (by omega) (fuel_pos ha)
  · have h0 : ((a.length : Int) != (b.length : Int)) = true := by simp; omega
    have h1 : (a == b) = false := by
      rw [Bool.eq_false_iff]; intro h; exact hlen (by rw [eq_of_beq h])
    simp [h0, h1]
/-! ### the sorted form -/
theorem str_lt_iff {x y : Str} : x < y ↔ ¬ y ≤ x := by
  constructor
  · intro h h'; exact str_not_lt.2 h' h
  · intro h
    rcases Decidable.em (x < y) with h1 | h1
    · exact h1
    · exact absurd (str_not_lt.1 h1) h
theorem str_lt_trans {x y z : Str} (h : x < y) (h' : y < z) : x < z := by
  rw [str_lt_iff] at *
  intro hz
  rcases str_le_total y z with h1 | h1
  · exact h (str_le_trans h1 hz)
  · exact h' h1
theorem str_lt_irrefl (x : Str) : ¬ x < x := fun h => str_lt_iff.1 h (by rcases str_le_total x x with h | h <;> exact h)
theorem str_lt_le {x y : Str} (h : x < y) : x ≤ y := by
  rcases str_le_total x y with h1 | h1
  · exact h1
  · exact absurd h1 (str_lt_iff.1 h)
theorem str_lt_of {x y : Str} (h : x ≤ y) (hn : x ≠ y) : x < y := str_lt_iff.2 fun h' => hn (str_le_antisymm h h')
/-- strictly ascending -/
def asc (l : List Str) : Prop := l.Pairwise (· < ·)
theorem asc_unique : ∀ {a b : List Str}, asc a → asc b → (∀ x, x ∈ a ↔ x ∈ b) → a = b := by
  intro a b ha hb h
  have na : a.Nodup := ha.imp (fun {x y} (h : x < y) (e : x = y) => str_lt_irrefl x (by rw [← e] at h; exact h))
  have nb : b.Nodup := hb.imp (fun {x y} (h : x < y) (e : x = y) => str_lt_irrefl x (by rw [← e] at h; exact h))
  exact sorted_unique ((List.perm_ext_iff_of_nodup na nb).2 h) (ha.imp str_lt_le) (hb.imp str_lt_le)
theorem sortS_asc {l : List Str} (h : l.Nodup) : asc (sortS l) := by
  have h1 := sortS_sorted l
  have h2 : (sortS l).Nodup := (sortS_perm l).nodup_iff.2 h
  exact (h1.and h2).imp fun h => str_lt_of h.1 h.2

/-- a scope of the list that no other one includes -/
def least (l : List Str) (x : Str) : Bool := valid x && l.all fun t => t == x || !imp t x
def sel (l : List Str) : List Str → List Str → List Str
  | _, [] => []
  | p, x :: r => if !valid x || p.contains x then sel l (p ++ [x]) r else if l.any (fun t => !(t == x) && imp t x) then sel l (p ++ [x]) r else x :: sel l (p ++ [x]) r
def sorted (l : List Str) : List Str := sortS (sel l [] l)
theorem least_any (l : List Str) (x : Str) : (l.all fun t => t == x || !imp t x) = !(l.any (fun t => !(t == x) && imp t x)) := by
  induction l with
  | nil => rfl
  | cons y l ih => simp only [List.all_cons, List.any_cons, ih]; cases y == x <;> cases imp y x <;> simp
theorem mem_sel (l : List Str) (x : Str) : ∀ (r p : List Str), x ∈ sel l p r ↔ x ∈ r ∧ x ∉ p ∧ least l x = true := by
  intro r
  induction r with
  | nil => intro p; simp [sel]
  | cons y r ih =>
    intro p
    have hc : p.contains y = true ↔ y ∈ p := by simp
    unfold sel
    by_cases h1 : (!valid y || p.contains y) = true
    · rw [if_pos h1, ih]
      simp only [List.mem_append, List.mem_cons, List.not_mem_nil, or_false, not_or]
      constructor
      · rintro ⟨a, ⟨b, c⟩, d⟩; exact ⟨.inr a, b, d⟩
      · rintro ⟨a, b, d⟩
        have hne : ¬ x = y := by
          rintro rfl
          simp only [Bool.or_eq_true, Bool.not_eq_true'] at h1
          rcases h1 with h1 | h1
          · unfold least at d; rw [h1] at d; simp at d
          · exact b (hc.1 h1)
        exact ⟨a.resolve_left hne, ⟨b, hne⟩, d⟩
    · rw [if_neg h1]
      by_cases h2 : l.any (fun t => !(t == y) && imp t y) = true
      · rw [if_pos h2, ih]
        simp only [List.mem_append, List.mem_cons, List.not_mem_nil, or_false, not_or]
        constructor
        · rintro ⟨a, ⟨b, c⟩, d⟩; exact ⟨.inr a, b, d⟩
        · rintro ⟨a, b, d⟩
          have hne : ¬ x = y := by
            rintro rfl
            unfold least at d; rw [least_any, h2] at d; simp at d
          exact ⟨a.resolve_left hne, ⟨b, hne⟩, d⟩
      · rw [if_neg h2, List.mem_cons, ih]
        simp only [Bool.or_eq_true, Bool.not_eq_true', not_or, Bool.not_eq_false] at h1
        have hy : y ∉ p := fun h => h1.2 (hc.2 h)
        have hl : least l y = true := by unfold least; rw [least_any, h1.1]; simp at h2 ⊢; exact h2
        simp only [List.mem_append, List.mem_cons, List.not_mem_nil, or_false, not_or]
        constructor
        · rintro (rfl | ⟨a, ⟨b, c⟩, d⟩)
          · exact ⟨.inl rfl, hy, hl⟩
          · exact ⟨.inr a, b, d⟩
        · rintro ⟨a, b, d⟩
          by_cases e : x = y
          · exact .inl e
          · exact .inr ⟨a.resolve_left e, ⟨b, e⟩, d⟩
theorem nodup_sel (l : List Str) : ∀ (r p : List Str), (sel l p r).Nodup := by
  intro r
  induction r with
  | nil => intro p; exact List.nodup_nil
  | cons y r ih =>
    intro p
    unfold sel
    split
    · exact ih _
    · split
      · exact ih _
      · refine List.nodup_cons.2 ⟨fun h => ?_, ih _⟩
        have := ((mem_sel l y r _).1 h).2.1
        simp at this
theorem sel_len (l : List Str) : ∀ (r p : List Str), (sel l p r).length ≤ r.length := by
  intro r
  induction r with
  | nil => intro p; simp [sel]
  | cons y r ih =>
    intro p
    unfold sel
    have := ih (p ++ [y])
    split
    · simp; omega
    · split <;> simp <;> omega
theorem mem_sorted (l : List Str) (x : Str) : x ∈ sorted l ↔ x ∈ l ∧ least l x = true := by
  unfold sorted
  rw [(sortS_perm _).mem_iff, mem_sel]; simp
theorem sorted_asc (l : List Str) : asc (sorted l) := sortS_asc (nodup_sel l l [])
theorem sorted_sm {l : List Str} (h : sm l) : sm (sorted l) := by
  refine ⟨?_, fun s hs => h.2 s ((mem_sorted l s).1 hs).1⟩
  have := sel_len l l []
  unfold sorted
  rw [(sortS_perm _).length_eq]; have := h.1; omega

theorem br3 {α : Type} (a b c : Bool) (p q : Option α) : ((if (!a) = true then some b else some false).bind fun z => if z = true then p else if c = true then p else q) = if (!a && b || c) = true then p else q := by
  cases a <;> cases b <;> cases c <;> rfl
theorem scope_Sorted_eq (l : List Str) (hl : sm l) : scope_Sorted l = some (sorted l) := by
  have h1000 := hl.1
  have inner : ∀ (r0 : List Str → List Str → List Str → Int → Int → Option (List Str)) (out : List Str) (x : Str) (i : Nat), out.length ≤ 1000 → i < l.length → fits x →
      ∀ (q : List Str) (k n : Nat), l.drop k = q → k ≤ l.length → q.length < n →
      scope_Sorted_L3 r0 n l out x l (l.length : Int) (i : Int) l (l.length : Int) (k : Int) =
        if q.any (fun t => !(t == x) && imp t x) then r0 l out l (l.length : Int) ((i + 1 : Nat) : Int) else r0 l (out ++ [x]) l (l.length : Int) ((i + 1 : Nat) : Int) := by
    intro r0 out x i ho hi hx q
    induction q with
    | nil =>
      intro k n hd hk hn
      obtain ⟨n, rfl⟩ : ∃ k, n = k + 1 := ⟨n - 1, by simp at hn; omega⟩
      have := drop_nil hd
      have hf : fitL out.length ([x] : List Str).length = true := by simp [fitL]; omega
      rw [scope_Sorted_L3]
      simp only [show ¬ ((k : Int) < l.length) by omega, decide_false, Bool.false_eq_true, if_false, hf, chk_true, scope_Sorted_B2, w64n (show i < 9223372036854775807 by omega), List.any_nil]
    | cons y q ih =>
      intro k n hd hk hn
      obtain ⟨n, rfl⟩ : ∃ k, n = k + 1 := ⟨n - 1, by simp at hn; omega⟩
      obtain ⟨h1, h2, h3⟩ := drop_more hd
      have hlt := drop_lt hd
      rw [scope_Sorted_L3]
      simp only [show ((k : Int) < l.length) by omega, decide_true, if_true, idx_n, h2, Option.bind_some, scope_Implies_eq y x (hl.at h2) hx, w64n (show k < 9223372036854775807 by omega), w64n (show i < 9223372036854775807 by omega), ih (k + 1) n h3 (by omega) (by simp at hn; omega), List.any_cons, scope_Sorted_B2]
      exact br3 _ _ _ _ _
  have key : ∀ (r : List Str) (i n : Nat) (out : List Str), l.drop i = r → i ≤ l.length → out.length ≤ i → r.length < n →
      scope_Sorted_L1 n l out l (l.length : Int) (i : Int) = some (sortS (out ++ sel l (l.take i) r)) := by
    intro r
    induction r with
    | nil =>
      intro i n out hd hi ho hn
      obtain ⟨n, rfl⟩ : ∃ k, n = k + 1 := ⟨n - 1, by simp at hn; omega⟩
      have := drop_nil hd
      have hs : decide (out.length < 4611686018427387904) = true := by simp; omega
      simp only [scope_Sorted_L1, show ¬ ((i : Int) < l.length) by omega, decide_false, Bool.false_eq_true, if_false, lib_Sort, hs, chk_true, Option.bind_some, sel, List.append_nil]
    | cons x r ih =>
      intro i n out hd hi ho hn
      obtain ⟨n, rfl⟩ : ∃ k, n = k + 1 := ⟨n - 1, by simp at hn; omega⟩
      obtain ⟨h1, h2, h3⟩ := drop_more hd
      have hlt := drop_lt hd
      have hi' : inc 0 (i : Int) l.length = true := by rw [inc_0]; simp; omega
      have hft : fits (l.take i) := by unfold fits; rw [take_len hlt]; omega
      have hin := inner (scope_Sorted_L1 n) out x i (by omega) hlt (hl.at h2) l 0 fuel rfl (by omega) (by unfold fuel; omega)
      have hin' : scope_Sorted_L3 (scope_Sorted_L1 n) fuel l out x l (l.length : Int) (i : Int) l (l.length : Int) 0 = _ := hin
      have e1 := ih (i + 1) n out h3 (by omega) (by omega) (by simp at hn; omega)
      have e2 := ih (i + 1) n (out ++ [x]) h3 (by omega) (by simp; omega) (by simp at hn; omega)
      simp only [scope_Sorted_L1, show ((i : Int) < l.length) by omega, decide_true, if_true, idx_n, h2, Option.bind_some, scope_valid_eq x (hl.at h2), hi', chk_true, cut_0, slices_Contains_eq _ _ hft, hin', scope_Sorted_B2, w64n (show i < 9223372036854775807 by omega), e1, e2, sel, take_more hd]
      cases valid x <;> cases (l.take i).contains x <;> cases l.any (fun t => !(t == x) && imp t x) <;> simp
  have := key l 0 fuel [] rfl (by omega) (by simp) (by unfold fuel; omega)
  simpa [scope_Sorted, sorted] using this
/-! ### the specification's sorted form -/
def insF (s : Str) : Bool → List Str → List Str
  | d, [] => if !d then [s] else []
  | d, y :: r => (if !d && !sLt y s then [s] else []) ++ ((if !(y == s) then [y] else []) ++ insF s (d || !sLt y s) r)
theorem insF_true (s : Str) : ∀ l : List Str, insF s true l = l.filter fun y => !(y == s)
  | [] => rfl
  | y :: r => by
    unfold insF
    rw [Bool.true_or, insF_true s r, List.filter_cons]
    cases y == s <;> simp
theorem insF_false (s : Str) : ∀ l : List Str, asc l → asc (insF s false l) ∧ ∀ x, x ∈ insF s false l ↔ x = s ∨ x ∈ l
  | [], _ => by constructor <;> simp [insF, asc]
  | y :: r, h => by
    obtain ⟨h1, h2⟩ := List.pairwise_cons.1 h
    obtain ⟨i1, i2⟩ := insF_false s r h2
    unfold insF
    cases hc : sLt y s with
    | true =>
      have hlt : y < s := by rw [sLt_eq] at hc; exact of_decide_eq_true hc
      have hne : (y == s) = false := by rw [beq_eq_false_iff_ne]; rintro rfl; exact str_lt_irrefl _ hlt
      simp only [Bool.not_true, Bool.and_false, Bool.false_eq_true, if_false, List.nil_append, hne, Bool.not_false, if_true, Bool.or_false, List.singleton_append]
      refine ⟨List.pairwise_cons.2 ⟨fun z hz => ?_, i1⟩, fun x => ?_⟩
      · rcases (i2 z).1 hz with rfl | hz
        · exact hlt
        · exact h1 z hz
      · simp only [List.mem_cons, i2]
        constructor
        · rintro (h | h | h) <;> simp [h]
        · rintro (h | h | h) <;> simp [h]
    | false =>
      have hle : s ≤ y := by
        rw [sLt_eq] at hc; exact str_not_lt.1 (of_decide_eq_false hc)
      simp only [Bool.not_false, Bool.and_true, if_true, Bool.false_or, Bool.or_true, insF_true]
      cases hy : y == s with
      | true =>
        have e : y = s := eq_of_beq hy
        subst e
        have hf : r.filter (fun z => !(z == y)) = r := List.filter_eq_self.2 fun z hz => by
          have := h1 z hz
          simp; rintro rfl; exact str_lt_irrefl _ this
        simp only [Bool.not_true, Bool.false_eq_true, if_false, List.nil_append, hf, List.singleton_append]
        exact ⟨h, fun x => by simp⟩
      | false =>
        have hne : s ≠ y := by rintro rfl; simp at hy
        have hlt : s < y := str_lt_of hle hne
        have hf : r.filter (fun z => !(z == s)) = r := List.filter_eq_self.2 fun z hz => by
          have := str_lt_trans hlt (h1 z hz)
          simp; rintro rfl; exact str_lt_irrefl _ this
        simp only [Bool.not_false, if_true, hf, List.singleton_append]
        refine ⟨List.pairwise_cons.2 ⟨fun z hz => ?_, h⟩, fun x => by simp⟩
        rcases List.mem_cons.1 hz with rfl | hz
        · exact hlt
        · exact str_lt_trans hlt (h1 z hz)
theorem insF_len (s : Str) : ∀ (l : List Str) (d : Bool), (insF s d l).length ≤ l.length + (if d then 0 else 1) ∧ (insF s d l).length ≤ l.length + 1
  | [], d => by cases d <;> simp [insF]
  | y :: r, d => by
    have h1 := insF_len s r true
    have h2 := insF_len s r false
    unfold insF
    cases d <;> cases sLt y s <;> cases y == s <;> simp at h1 h2 ⊢ <;> omega
theorem ref06_Insert_eq (l : List Str) (s : Str) (hl : l.length ≤ 1000) : ref06_Insert l s = some (insF s false l) := by
  have key : ∀ (r : List Str) (i n : Nat) (out : List Str) (d : Bool), l.drop i = r → i ≤ l.length → out.length ≤ i + (if d then 1 else 0) → r.length < n →
      ref06_Insert_L1 n l s out d (i : Int) = some (out ++ insF s d r) := by
    intro r
    induction r with
    | nil =>
      intro i n out d hd hi ho hn
      obtain ⟨n, rfl⟩ : ∃ k, n = k + 1 := ⟨n - 1, by simp at hn; omega⟩
      have := drop_nil hd
      have hf : fitL out.length ([s] : List Str).length = true := by cases d <;> simp [fitL] at ho ⊢ <;> omega
      simp only [ref06_Insert_L1, show ¬ ((i : Int) < l.length) by omega, decide_false, Bool.false_eq_true, if_false, hf, chk_true, ref06_Insert_B4, insF]
      cases d <;> simp
    | cons x r ih =>
      intro i n out d hd hi ho hn
      obtain ⟨n, rfl⟩ : ∃ k, n = k + 1 := ⟨n - 1, by simp at hn; omega⟩
      obtain ⟨h1, h2, h3⟩ := drop_more hd
      have hlt := drop_lt hd
      have hw := w64n (show i < 9223372036854775807 by omega)
      have B2 : ∀ (out : List Str) (d : Bool), out.length ≤ i + (if d then 1 else 0) → ref06_Insert_B2 (ref06_Insert_L1 n) l s out d (i : Int) = some (out ++ ((if !(x == s) then [x] else []) ++ insF s d r)) := by
        intro out d ho
        have hf : fitL out.length ([x] : List Str).length = true := by cases d <;> simp [fitL] at ho ⊢ <;> omega
        have e1 := ih (i + 1) n (out ++ [x]) d h3 (by omega) (by simp; omega) (by simp at hn; omega)
        have e2 := ih (i + 1) n out d h3 (by omega) (by omega) (by simp at hn; omega)
        unfold ref06_Insert_B2 ref06_Insert_B3
        rw [idx_n, h2, Option.bind_some, Option.bind_some, hf, chk_true, hw, e1, e2]
        by_cases he : (!(x == s)) = true
        · rw [if_pos he, if_pos he]; simp
        · rw [if_neg he, if_neg he]; simp
      rw [ref06_Insert_L1, idx_n, h2]
      simp only [show ((i : Int) < l.length) by omega, decide_true, if_true, Option.bind_some]
      cases d with
      | true =>
        rw [B2 out true ho]
        simp [insF]
      | false =>
        have hf : fitL out.length ([s] : List Str).length = true := by simp [fitL] at ho ⊢; omega
        simp only [Bool.not_false, if_true, Option.bind_some, hf, chk_true]
        rw [B2 out false ho, B2 (out ++ [s]) true (by simp at ho ⊢; omega)]
        cases hc : sLt x s <;> simp [insF, hc]
  have := key l 0 fuel [] false rfl (by omega) (by simp) (by unfold fuel; omega)
  simpa [ref06_Insert] using this
theorem ref29_Sorted_eq (l : List Str) (hl : sm l) (h500 : l.length ≤ 500) : ref29_Sorted l = some (sorted l) := by
  have inner : ∀ (r0 : List Str → List Str → Int → Option (List Str)) (out : List Str) (x : Str) (i : Nat), out.length ≤ 1000 → l[i]? = some x → fits x →
      ∀ (q : List Str) (k n : Nat) (b : Bool), l.drop k = q → k ≤ l.length → q.length < n →
      ref29_Sorted_L2 r0 n l out (i : Int) b (k : Int) = if b && q.all (fun t => t == x || !imp t x) then r0 l (insF x false out) ((i + 1 : Nat) : Int) else r0 l out ((i + 1 : Nat) : Int) := by
    intro r0 out x i ho hix hx q
    have hi : i < l.length := (List.getElem?_eq_some_iff.1 hix).1
    induction q with
    | nil =>
      intro k n b hd hk hn
      obtain ⟨n, rfl⟩ : ∃ k, n = k + 1 := ⟨n - 1, by simp at hn; omega⟩
      have := drop_nil hd
      rw [ref29_Sorted_L2]
      simp only [show ¬ ((k : Int) < l.length) by omega, decide_false, Bool.false_eq_true, if_false, idx_n, hix, Option.bind_some, ref06_Insert_eq out x ho, ref29_Sorted_B3, w64n (show i < 9223372036854775807 by omega), List.all_nil, Bool.and_true]
    | cons y q ih =>
      intro k n b hd hk hn
      obtain ⟨n, rfl⟩ : ∃ k, n = k + 1 := ⟨n - 1, by simp at hn; omega⟩
      obtain ⟨h1, h2, h3⟩ := drop_more hd
      have hlt := drop_lt hd
      rw [ref29_Sorted_L2]
      simp only [show ((k : Int) < l.length) by omega, decide_true, if_true, idx_n, h2, hix, Option.bind_some, ref29_Implies_eq y x (hl.at h2) hx, w64n (show k < 9223372036854775807 by omega), List.all_cons]
      have e : (if b = true then (if (y == x) = true then some true else some (!imp y x)).bind fun z44 => some z44 else some false) = some (b && (y == x || !imp y x)) := by
        by_cases hyx : (y == x) = true
        · rw [if_pos hyx, hyx]; cases b <;> rfl
        · rw [if_neg hyx, Bool.eq_false_iff.2 hyx]; cases b <;> cases imp y x <;> rfl
      rw [e, Option.bind_some, ih (k + 1) n _ h3 (by omega) (by simp at hn; omega), Bool.and_assoc]
      rfl
  have key : ∀ (r : List Str) (i n : Nat) (out : List Str), l.drop i = r → i ≤ l.length → out.length ≤ i → r.length < n → asc out → (∀ x, x ∈ out ↔ x ∈ l.take i ∧ least l x = true) →
      ref29_Sorted_L1 n l out (i : Int) = some (sorted l) := by
    intro r
    induction r with
    | nil =>
      intro i n out hd hi ho hn ha hm
      obtain ⟨n, rfl⟩ : ∃ k, n = k + 1 := ⟨n - 1, by simp at hn; omega⟩
      have hle := drop_nil hd
      simp only [ref29_Sorted_L1, show ¬ ((i : Int) < l.length) by omega, decide_false, Bool.false_eq_true, if_false, Option.some.injEq]
      rw [List.take_of_length_le hle] at hm
      exact asc_unique ha (sorted_asc l) fun x => (hm x).trans (mem_sorted l x).symm
    | cons x r ih =>
      intro i n out hd hi ho hn ha hm
      obtain ⟨n, rfl⟩ : ∃ k, n = k + 1 := ⟨n - 1, by simp at hn; omega⟩
      obtain ⟨h1, h2, h3⟩ := drop_more hd
      have hlt := drop_lt hd
      have hin : ref29_Sorted_L2 (ref29_Sorted_L1 n) fuel l out (i : Int) (valid x) 0 = _ := inner (ref29_Sorted_L1 n) out x i (by omega) h2 (hl.at h2) l 0 fuel (valid x) rfl (by omega) (by unfold fuel; omega)
      have hc : (valid x && l.all (fun t => t == x || !imp t x)) = least l x := rfl
      simp only [ref29_Sorted_L1, show ((i : Int) < l.length) by omega, decide_true, if_true, idx_n, h2, Option.bind_some, ref29_Valid_eq x (hl.at h2), hin, hc]
      by_cases hx : least l x = true
      · rw [if_pos hx]
        have hI := insF_false x out ha
        refine ih (i + 1) n _ h3 (by omega) ?_ (by simp at hn; omega) hI.1 fun z => ?_
        · have := (insF_len x out false).2; omega
        · rw [hI.2, take_more hd, hm]
          simp only [List.mem_append, List.mem_cons, List.not_mem_nil, or_false]
          constructor
          · rintro (rfl | h)
            · exact ⟨.inr rfl, hx⟩
            · exact ⟨.inl h.1, h.2⟩
          · rintro ⟨h | h, h'⟩
            · exact .inr ⟨h, h'⟩
            · exact .inl h
      · rw [if_neg hx]
        refine ih (i + 1) n _ h3 (by omega) (by omega) (by simp at hn; omega) ha fun z => ?_
        rw [take_more hd, hm]
        simp only [List.mem_append, List.mem_cons, List.not_mem_nil, or_false]
        constructor
        · rintro ⟨h, h'⟩; exact ⟨.inl h, h'⟩
        · rintro ⟨h | h, h'⟩
          · exact ⟨h, h'⟩
          · subst h; exact absurd h' hx
  have := key l 0 fuel [] rfl (by omega) (by simp) (by unfold fuel; omega) List.Pairwise.nil (by simp)
  simpa [ref29_Sorted] using this
theorem put_set {K V : Type} [DecidableEq K] {key : K} {r x : V} : ∀ {l : List (K × V)} {k : Nat}, l[k]? = some (key, r) → (∀ q ∈ l.take k, q.1 ≠ key) → mputL key x l = l.set k (key, x)
  | [], k, h, _ => by simp at h
  | p :: l, 0, h, _ => by
    simp at h; subst h
    simp [mputL]
  | p :: l, k + 1, h, ht => by
    have hp := ht p (by simp)
    unfold mputL
    rw [if_neg (fun e => hp e.symm), put_set (k := k) (by simpa using h) (fun q hq => ht q (by simp [hq]))]
    rfl
theorem del_cut {K V : Type} [DecidableEq K] {key : K} {r : V} : ∀ {l : List (K × V)} {k : Nat}, l[k]? = some (key, r) → (∀ q ∈ l.take k, q.1 ≠ key) → mdelL key l = l.take k ++ l.drop (k + 1)
  | [], k, h, _ => by simp at h
  | p :: l, 0, h, _ => by
    simp at h; subst h
    simp [mdelL]
  | p :: l, k + 1, h, ht => by
    have hp := ht p (by simp)
    unfold mdelL
    rw [if_neg (fun e => hp e.symm), del_cut (k := k) (by simpa using h) (fun q hq => ht q (by simp [hq]))]
    rfl
theorem put_none {K V : Type} [DecidableEq K] {key : K} {x : V} : ∀ {l : List (K × V)}, mfind key l = none → mputL key x l = l ++ [(key, x)]
  | [], _ => rfl
  | p :: l, h => by
    unfold mfind at h
    split at h
    · cases h
    · rename_i e
      unfold mputL
      rw [if_neg e, put_none h]; rfl
/-! ### delegations -/
theorem awake35 : law35_awake = some true := by kernel_rfl
abbrev WL := List (delegate_way × delegate_delegation)
abbrev toOne (p : delegate_way × delegate_delegation) : ref35_one := ⟨p.1.from_, p.1.to_, p.2.scopes, p.2.window⟩
abbrev rf (l : WL) : ref35_Delegations := ⟨true, l.map toOne⟩
def vt (t : Int) : Bool := t == lim t
theorem clock_Valid_eq (t : Int) : clock_Valid t = some (vt t) := rfl
theorem ref04_Valid_eq (t : Int) : ref04_Valid t = some (vt t) := by
  unfold ref04_Valid vt
  have := lim_val t
  congr 1
  rw [Bool.eq_iff_iff]
  simp only [Bool.and_eq_true, decide_eq_true_eq, beq_iff_eq]
  rw [this]
  constructor
  · rintro ⟨h1, h2⟩; rw [if_neg (by omega), if_neg (by omega)]
  · intro h; split at h
    · omega
    · split at h <;> omega
def ckW (w : api_Window) (t : Int) : Int := if w.From > w.Until then 2 else if lim t < w.From then 14 else if lim t ≥ w.Until then 13 else 0
theorem clock_Check_eq (w : api_Window) (t : Int) : clock_Check w t 0 = some (ckW w t) := by
  unfold clock_Check ckW
  have h := lim_range t
  have e1 : clock_limited t = some (lim t) := rfl
  have e2 : gmin (gmax 0 0) 600 = 0 := rfl
  rw [e1, Option.bind_some, e2, w64 (show -9223372036854775808 ≤ lim t + 0 by omega) (by omega), w64 (show -9223372036854775808 ≤ lim t - 0 by omega) (by omega), Int.add_zero, Int.sub_zero]
  by_cases a : w.From > w.Until
  · rw [if_pos (decide_eq_true a), if_pos a]
  rw [if_neg (by simpa using a), if_neg a]
  by_cases b : lim t < w.From
  · rw [if_pos (decide_eq_true b), if_pos b]
  rw [if_neg (by simpa using b), if_neg b]
  by_cases c : lim t ≥ w.Until
  · rw [if_pos (decide_eq_true c), if_pos c]
  rw [if_neg (by simpa using c), if_neg c]
theorem ref04_Check_eq (w : api_Window) (t : Int) : ref04_Check w t 0 = some (ckW w t) := by
  unfold ref04_Check ckW
  have h := lim_range t
  have e1 : ref04_Limit t = some (lim t) := by unfold ref04_Limit; rw [lim_eq]
  have e2 : gmax 0 (gmin 0 600) = 0 := rfl
  rw [e1, Option.bind_some, Option.bind_some, e2, w64 (show -9223372036854775808 ≤ lim t + 0 by omega) (by omega), w64 (show -9223372036854775808 ≤ lim t - 0 by omega) (by omega), Int.add_zero, Int.sub_zero]
  by_cases a : w.From > w.Until
  · rw [if_pos (decide_eq_true a), if_pos a]
  rw [if_neg (by simpa using a), if_neg a]
  by_cases b : lim t < w.From
  · rw [if_pos (decide_eq_true b), if_pos b]
  rw [if_neg (by simpa using b), if_neg b]
  by_cases c : lim t ≥ w.Until
  · rw [if_pos (decide_eq_true c), if_pos c]
  rw [if_neg (by simpa using c), if_neg c]
/-- what a delegation holds -/
structure goodW (p : delegate_way × delegate_delegation) : Prop where
  frm : word p.1.from_ = true
  to : word p.1.to_ = true
  ne : p.1.from_ ≠ p.1.to_
  ck : ck p.2.scopes = 0
  some : p.2.scopes ≠ []
theorem goodW.sm {p : delegate_way × delegate_delegation} (h : goodW p) : sm p.2.scopes := by
  have h1 := ck_ok h.ck
  exact ⟨by omega, fun s hs => (word_fits (valid_word (ckL_ok [] h1.2 s hs)))⟩
theorem goodW.len {p : delegate_way × delegate_delegation} (h : goodW p) : p.2.scopes.length ≤ 16 := (ck_ok h.ck).1
structure Inv (l : WL) : Prop where
  nd : nodupK l
  len : l.length ≤ 256
  good : ∀ p ∈ l, goodW p
theorem inv_new : Inv [] := ⟨nodupK_nil, by simp, fun p h => by cases h⟩
theorem made_eq (l : WL) : delegate_Delegations_made ⟨some l⟩ = some true := rfl
def mayR (l : WL) (f t : Str) (sc : List Str) (now : Int) : Int :=
  match mfind ⟨f, t⟩ l with
  | none => 11
  | some d => if ckW d.window now ≠ 0 then ckW d.window now else if within sc d.scopes then 0 else 19
theorem Inv.at {l : WL} (h : Inv l) {k : delegate_way} {d : delegate_delegation} (hf : mfind k l = some d) : goodW (k, d) := h.good _ (mfind_mem hf)
theorem opt_cases {α : Type} (o : Option α) : o = none ∨ ∃ r, o = some r := by cases o <;> simp
theorem may_eq {l : WL} (h : Inv l) (f t : Str) {sc : List Str} (hs : sm sc) (now : Int) : delegate_Delegations_May ⟨some l⟩ f t sc now = some (mayR l f t sc now) := by
  unfold delegate_Delegations_May mayR mgetD mhas
  simp only [made_eq, Option.bind_some, Bool.not_true, Bool.false_eq_true, if_false, Option.getD_some]
  rcases opt_cases (mfind (⟨f, t⟩ : delegate_way) l) with hf | ⟨d, hf⟩
  · simp only [hf]; rfl
  · simp only [hf, Option.isSome_some, Bool.not_true, Bool.false_eq_true, if_false, Option.getD_some, clock_Check_eq, Option.bind_some, scope_Within_eq _ _ hs (h.at hf).sm]
    by_cases hc : ckW d.window now ≠ 0
    · rw [if_pos (by simpa using hc), if_pos hc]
    · rw [if_neg (by simpa using hc), if_neg hc]
      cases within sc d.scopes <;> rfl
/-- where a delegation lies -/
structure At (l : WL) (f t : Str) (k : Nat) (d : delegate_delegation) : Prop where
  get : l[k]? = some (⟨f, t⟩, d)
  pre : ∀ q ∈ l.take k, q.1 ≠ ⟨f, t⟩
theorem At.lt {l : WL} {f t : Str} {k : Nat} {d : delegate_delegation} (h : At l f t k d) : k < l.length := (List.getElem?_eq_some_iff.1 h.get).1
theorem At.ix {l : WL} {f t : Str} {k : Nat} {d : delegate_delegation} (h : At l f t k d) : idx (l.map toOne) (k : Int) = some (toOne (⟨f, t⟩, d)) := by rw [idx_n, List.getElem?_map, h.get]; rfl
theorem At.put {l : WL} {f t : Str} {k : Nat} {d x : delegate_delegation} (h : At l f t k d) : setAt (l.map toOne) (k : Int) ⟨f, t, x.scopes, x.window⟩ = (mputL ⟨f, t⟩ x l).map toOne := by
  rw [put_set h.get h.pre, List.map_set]
  simp [setAt]
theorem rfind_loop (l : WL) (f t : Str) (hl : l.length ≤ 1000) : ∀ (r : WL) (j n : Nat), l.drop j = r → r.length < n → (∀ q ∈ l.take j, q.1 ≠ ⟨f, t⟩) →
    (∃ (k : Nat) (x : delegate_delegation), ref35_Delegations_find_L1 n (rf l) f t (j : Int) = some (k : Int) ∧ At l f t k x) ∨ (ref35_Delegations_find_L1 n (rf l) f t (j : Int) = some (-1) ∧ ∀ q ∈ l, q.1 ≠ ⟨f, t⟩) := by
  intro r
  induction r with
  | nil =>
    intro j n hd hn ht
    obtain ⟨n, rfl⟩ : ∃ k, n = k + 1 := ⟨n - 1, by simp at hn; omega⟩
    have := drop_nil hd
    rw [List.take_of_length_le this] at ht
    refine .inr ⟨?_, ht⟩
    simp only [ref35_Delegations_find_L1, List.length_map, show ¬ ((j : Int) < l.length) by omega, decide_false, Bool.false_eq_true, if_false]
  | cons x r ih =>
    intro j n hd hn ht
    obtain ⟨n, rfl⟩ : ∃ k, n = k + 1 := ⟨n - 1, by simp at hn; omega⟩
    obtain ⟨h1, h2, h3⟩ := drop_more hd
    have hlt := drop_lt hd
    have e : ref35_Delegations_find_L1 (n + 1) (rf l) f t (j : Int) = if x.1.from_ == f && x.1.to_ == t then some (j : Int) else ref35_Delegations_find_L1 n (rf l) f t ((j + 1 : Nat) : Int) := by
      simp only [ref35_Delegations_find_L1, List.length_map, show ((j : Int) < l.length) by omega, decide_true, if_true, idx_n, List.getElem?_map, h2, Option.map_some, Option.bind_some, w64n (show j < 9223372036854775807 by omega)]
      cases x.1.from_ == f <;> simp
    rw [e]
    by_cases hx : (x.1.from_ == f && x.1.to_ == t) = true
    · rw [if_pos hx]
      simp only [Bool.and_eq_true, beq_iff_eq] at hx
      refine .inl ⟨j, x.2, rfl, ?_, ht⟩
      rw [h2, ← hx.1, ← hx.2]
    · rw [if_neg hx]
      refine ih (j + 1) n h3 (by simp at hn; omega) fun q hq => ?_
      rw [take_more hd] at hq
      rcases List.mem_append.1 hq with hq | hq
      · exact ht q hq
      · simp at hq; subst hq
        intro e; apply hx; rw [e]; simp
theorem rfind {l : WL} (h : Inv l) (f t : Str) :
    (∃ (k : Nat) (x : delegate_delegation), ref35_Delegations_find (rf l) f t = some (k : Int) ∧ At l f t k x ∧ mfind ⟨f, t⟩ l = some x) ∨ (ref35_Delegations_find (rf l) f t = some (-1) ∧ mfind (⟨f, t⟩ : delegate_way) l = none) := by
  have hl := h.len
  rcases rfind_loop l f t (by omega) l 0 fuel rfl (by unfold fuel; omega) (by simp) with ⟨k, x, h1, h2⟩ | ⟨h1, h2⟩
  · exact .inl ⟨k, x, h1, h2, mfind_of_mem h.nd (List.mem_of_getElem? h2.get)⟩
  · exact .inr ⟨h1, mfind_none.2 h2⟩
theorem rmade_eq (l : WL) : ref35_Delegations_Made (rf l) = some true := rfl
theorem rmay_eq {l : WL} (h : Inv l) (f t : Str) {sc : List Str} (hs : sm sc) (now : Int) : ref35_Delegations_May (rf l) f t sc now = some (mayR l f t sc now) := by
  unfold ref35_Delegations_May mayR
  rw [rmade_eq, Option.bind_some, if_neg (by simp)]
  rcases rfind h f t with ⟨k, d, h1, h2, hf⟩ | ⟨h1, hf⟩
  · rw [h1, Option.bind_some, if_neg (by simp), h2.ix, Option.bind_some, ref04_Check_eq, Option.bind_some, hf]
    simp only [toOne, Option.bind_some, ref29_Within_eq _ _ hs (h.at hf).sm]
    by_cases hc : ckW d.window now ≠ 0
    · rw [if_pos (by simpa using hc), if_pos hc]
    · rw [if_neg (by simpa using hc), if_neg hc]
      cases within sc d.scopes <;> rfl
  · rw [h1, Option.bind_some, if_pos (by decide), hf]
/-- Allow -/
def alE (l : WL) (f t : Str) (sc : List Str) (w : api_Window) : Int :=
  if (!word f || !word t) then 5 else if f = t then 28 else if ck sc ≠ 0 then ck sc else if sc = [] then 6 else if ((!vt w.From || !vt w.Until) || decide (w.From ≥ w.Until)) then 2
  else if (mfind (⟨f, t⟩ : delegate_way) l).isSome = false ∧ 256 ≤ l.length then 3 else 0
def alL (l : WL) (f t : Str) (sc : List Str) (w : api_Window) : WL := if alE l f t sc w = 0 then mputL ⟨f, t⟩ ⟨sc, w⟩ l else l
theorem mlen_some {K V : Type} (l : List (K × V)) : mlen (some l) = (l.length : Int) := by unfold mlen; simp
theorem or3 (a b : Bool) : (if (!a) = true then some true else some (!b)) = some (!a || !b) := by cases a <;> rfl
theorem allow_eq {l : WL} (h : Inv l) (f t : Str) {sc : List Str} (w : api_Window) (hf : fits f) (ht : fits t) (hs : sm sc) :
    delegate_Delegations_Allow ⟨some l⟩ f t sc w = some (alE l f t sc w, ⟨some (alL l f t sc w)⟩) := by
  unfold delegate_Delegations_Allow alL
  have hc : lib_Clone sc = some sc := by unfold lib_Clone; rw [chk_t (by have := hs.1; simp; omega)]
  simp only [made_eq, Option.bind_some, Bool.not_true, Bool.false_eq_true, if_false, fold_Word_eq f hf, fold_Word_eq t ht, or3, scope_Check_eq sc hs.2, clock_Valid_eq, hc]
  by_cases h1 : (!word f || !word t) = true
  · have hE : alE l f t sc w = 5 := by unfold alE; rw [if_pos h1]
    rw [if_pos h1, hE, if_neg (by decide)]
  rw [if_neg h1]
  by_cases h2 : f = t
  · have hE : alE l f t sc w = 28 := by unfold alE; rw [if_neg h1, if_pos h2]
    rw [if_pos (by simpa using h2), hE, if_neg (by decide)]
  rw [if_neg (by simpa using h2)]
  by_cases h3 : ck sc ≠ 0
  · have hE : alE l f t sc w = ck sc := by unfold alE; rw [if_neg h1, if_neg h2, if_pos h3]
    rw [if_pos (by simpa using h3), hE, if_neg h3]
  rw [if_neg (by simpa using h3)]
  by_cases h4 : sc = []
  · have hE : alE l f t sc w = 6 := by unfold alE; rw [if_neg h1, if_neg h2, if_neg h3, if_pos h4]
    rw [if_pos (by simp [h4]), hE, if_neg (by decide)]
  rw [if_neg (by simp [h4])]
  by_cases h5 : ((!vt w.From || !vt w.Until) || decide (w.From ≥ w.Until)) = true
  · have hE : alE l f t sc w = 2 := by unfold alE; rw [if_neg h1, if_neg h2, if_neg h3, if_neg h4, if_pos h5]
    rw [if_pos h5, hE, if_neg (by decide)]
  rw [if_neg h5]
  have hE : alE l f t sc w = if (mfind (⟨f, t⟩ : delegate_way) l).isSome = false ∧ 256 ≤ l.length then 3 else 0 := by unfold alE; rw [if_neg h1, if_neg h2, if_neg h3, if_neg h4, if_neg h5]
  rw [hE, mlen_some]
  unfold mhas
  simp only [Option.getD_some]
  by_cases h6 : (mfind (⟨f, t⟩ : delegate_way) l).isSome = false ∧ 256 ≤ l.length
  · rw [if_pos (by simp [h6.1]; omega), if_pos h6, if_neg (by decide)]
  · have : ¬ ((!(mfind (⟨f, t⟩ : delegate_way) l).isSome) && decide ((l.length : Int) ≥ 256)) = true := by
      intro e
      simp only [Bool.and_eq_true, Bool.not_eq_true', decide_eq_true_eq] at e
      exact h6 ⟨e.1, by omega⟩
    rw [if_neg this, if_neg h6, if_pos rfl]
    rfl
theorem alE_ok {l : WL} {f t : Str} {sc : List Str} {w : api_Window} (h : alE l f t sc w = 0) : goodW (⟨f, t⟩, ⟨sc, w⟩) ∧ w.From < w.Until ∧ ((mfind (⟨f, t⟩ : delegate_way) l).isSome = true ∨ l.length < 256) := by
  unfold alE at h
  by_cases h1 : (!word f || !word t) = true
  · rw [if_pos h1] at h; cases h
  rw [if_neg h1] at h
  by_cases h2 : f = t
  · rw [if_pos h2] at h; cases h
  rw [if_neg h2] at h
  by_cases h3 : ck sc ≠ 0
  · rw [if_pos h3] at h; exact absurd h h3
  rw [if_neg h3] at h
  by_cases h4 : sc = []
  · rw [if_pos h4] at h; cases h
  rw [if_neg h4] at h
  by_cases h5 : ((!vt w.From || !vt w.Until) || decide (w.From ≥ w.Until)) = true
  · rw [if_pos h5] at h; cases h
  rw [if_neg h5] at h
  simp only [Bool.or_eq_true, Bool.not_eq_true', not_or, Bool.not_eq_false] at h1
  simp only [Bool.or_eq_true, Bool.not_eq_true', not_or, Bool.not_eq_false, decide_eq_true_eq] at h5
  refine ⟨⟨h1.1, h1.2, h2, by simpa using h3, h4⟩, by omega, ?_⟩
  by_cases h6 : (mfind (⟨f, t⟩ : delegate_way) l).isSome = false ∧ 256 ≤ l.length
  · rw [if_pos h6] at h; cases h
  · cases hm : (mfind (⟨f, t⟩ : delegate_way) l).isSome with
    | true => exact .inl rfl
    | false => exact .inr (by simp only [hm, true_and] at h6; omega)
theorem inv_put {l : WL} (h : Inv l) {k : delegate_way} {x : delegate_delegation} (hk : (mfind k l).isSome = true ∨ l.length < 256) (hg : goodW (k, x)) : Inv (mputL k x l) := by
  refine ⟨nodupK_put h.nd, ?_, fun p hp => ?_⟩
  · rw [len_put]
    have := h.len
    rcases hk with hk | hk
    · rw [if_pos hk]; exact this
    · split <;> omega
  · rcases mem_put hp with rfl | hp
    · exact hg
    · exact h.good p hp
theorem inv_al {l : WL} (h : Inv l) (f t : Str) (sc : List Str) (w : api_Window) : Inv (alL l f t sc w) := by
  unfold alL
  split
  · rename_i e
    obtain ⟨a, _, b⟩ := alE_ok e
    exact inv_put h b a
  · exact h
theorem rallow_eq {l : WL} (h : Inv l) (f t : Str) {sc : List Str} (w : api_Window) (hf : fits f) (ht : fits t) (hs : sm sc) :
    ref35_Delegations_Allow (rf l) f t sc w = some (alE l f t sc w, rf (alL l f t sc w)) := by
  have hl := h.len
  have hsl := hs.1
  unfold ref35_Delegations_Allow alL
  simp only [rmade_eq, Option.bind_some, Bool.not_true, Bool.false_eq_true, if_false, ref01_Word_eq f hf, ref01_Word_eq t ht, or3, ref29_Check_eq sc hs.2, ref04_Valid_eq]
  by_cases h1 : (!word f || !word t) = true
  · have hE : alE l f t sc w = 5 := by unfold alE; rw [if_pos h1]
    rw [if_pos h1, hE, if_neg (by decide)]
  rw [if_neg h1]
  by_cases h2 : f = t
  · have hE : alE l f t sc w = 28 := by unfold alE; rw [if_neg h1, if_pos h2]
    rw [if_pos (by simpa using h2), hE, if_neg (by decide)]
  rw [if_neg (by simpa using h2)]
  by_cases h3 : ck sc ≠ 0
  · have hE : alE l f t sc w = ck sc := by unfold alE; rw [if_neg h1, if_neg h2, if_pos h3]
    rw [if_pos (by simpa using h3), hE, if_neg h3]
  rw [if_neg (by simpa using h3)]
  by_cases h4 : sc = []
  · have hE : alE l f t sc w = 6 := by unfold alE; rw [if_neg h1, if_neg h2, if_neg h3, if_pos h4]
    rw [if_pos (by simp [h4]), hE, if_neg (by decide)]
  rw [if_neg (by simp [h4])]
  by_cases h5 : ((!vt w.From || !vt w.Until) || decide (w.From ≥ w.Until)) = true
  · have hE : alE l f t sc w = 2 := by unfold alE; rw [if_neg h1, if_neg h2, if_neg h3, if_neg h4, if_pos h5]
    rw [if_pos h5, hE, if_neg (by decide)]
  rw [if_neg h5, chk_t (by simp [fitL]; omega)]
  have hE : alE l f t sc w = if (mfind (⟨f, t⟩ : delegate_way) l).isSome = false ∧ 256 ≤ l.length then 3 else 0 := by unfold alE; rw [if_neg h1, if_neg h2, if_neg h3, if_neg h4, if_neg h5]
  rw [hE]
  unfold ref35_Delegations_Allow_B1 ref35_Delegations_Allow_B2
  rcases rfind h f t with ⟨k, d, f1, f2, f3⟩ | ⟨f1, f2⟩
  · have e := f2.put (x := ⟨sc, w⟩)
    simp only at e
    rw [f1, Option.bind_some, if_pos (by simp), f2.ix, Option.bind_some, f3, if_neg (by simp), if_pos rfl, List.nil_append, e]
  · rw [f1, Option.bind_some, if_neg (by decide), f2]
    by_cases h6 : 256 ≤ l.length
    · rw [if_pos (by simp; omega), if_pos ⟨rfl, h6⟩, if_neg (by decide)]
    · rw [if_neg (by simp; omega), chk_t (by simp [fitL]; omega), if_neg (fun e => h6 e.2), if_pos rfl, put_none f2]
      simp
theorem revoke_eq (l : WL) (f t : Str) : delegate_Delegations_Revoke ⟨some l⟩ f t = some ((mfind (⟨f, t⟩ : delegate_way) l).isSome, ⟨some (mdelL ⟨f, t⟩ l)⟩) := rfl
theorem inv_del {l : WL} (h : Inv l) (k : delegate_way) : Inv (mdelL k l) := by
  refine ⟨nodupK_del h.nd, ?_, fun p hp => h.good p (mem_del hp)⟩
  have := len_del (k := k) h.nd
  have := h.len
  omega
theorem rrevoke_eq {l : WL} (h : Inv l) (f t : Str) : ref35_Delegations_Revoke (rf l) f t = some ((mfind (⟨f, t⟩ : delegate_way) l).isSome, rf (mdelL ⟨f, t⟩ l)) := by
  unfold ref35_Delegations_Revoke
  have hl := h.len
  rw [rmade_eq, Option.bind_some, if_neg (by simp)]
  rcases rfind h f t with ⟨k, x, h1, h2, h3⟩ | ⟨h1, h2⟩
  · have hk := h2.lt
    rw [h1, Option.bind_some, if_neg (by simp), h3, del_cut h2.get h2.pre, w64n (show k < 9223372036854775807 by omega), chk_t (by rw [inc_0]; simp; omega), cut_0, chk_t (by simp [fitL]; omega), chk_t (by rw [inc_n]; simp; omega), cut_n, chk_t (by simp [fitL]; omega)]
    unfold ref35_Delegations_Revoke_B1
    rw [List.take_of_length_le (l := (l.map toOne).drop (k + 1)) (by simp)]
    simp [List.map_take, List.map_drop]
  · rw [h1, Option.bind_some, if_pos (by decide), h2, del_none h2]; rfl
/-- Drop -/
def touches (u : Str) (p : delegate_way × delegate_delegation) : Bool := (p.1.from_ == u) || (p.1.to_ == u)
def others (u : Str) (l : WL) : WL := l.filter fun p => !touches u p
theorem del_mem {e : delegate_way × delegate_delegation} {l : WL} (hn : nodupK l) (he : e ∈ l) {p : delegate_way × delegate_delegation} : p ∈ mdelL e.1 l ↔ p ∈ l ∧ p.1 ≠ e.1 := by
  rw [del_filter hn, List.mem_filter]; simp
theorem dropf_loop (u : Str) (l0 : WL) (hn0 : nodupK l0) : ∀ (k : Nat) (l : WL) (done : List delegate_way) (n : Nat), (leftL l done).length = k → k < n → nodupK l → others u l = others u l0 → (∀ p ∈ l, p.1 ∈ done → touches u p = false) →
    maps_DeleteFunc_map_delegate_way_delegate_delegation_delegate_way_delegate_delegation__Delegations_Drop_1_L1 n (some l) u done = some (some (others u l0)) := by
  intro k
  induction k with
  | zero =>
    intro l done n hk hn hnd ho hd
    obtain ⟨n, rfl⟩ : ∃ k, n = k + 1 := ⟨n - 1, by omega⟩
    have e := List.eq_nil_of_length_eq_zero hk
    unfold maps_DeleteFunc_map_delegate_way_delegate_delegation_delegate_way_delegate_delegation__Delegations_Drop_1_L1
    rw [mleft_some, e]
    refine pickAny_of (fun _ => ?_) (fun e he => by cases he)
    rw [← ho]
    congr 2
    symm
    refine List.filter_eq_self.2 fun p hp => ?_
    have : p.1 ∈ done := by
      refine Classical.byContradiction fun hc => ?_
      have : p ∈ leftL l done := List.mem_filter.2 ⟨hp, by simpa using hc⟩
      rw [e] at this; cases this
    rw [hd p hp this]; rfl
  | succ k ih =>
    intro l done n hk hn hnd ho hd
    obtain ⟨n, rfl⟩ : ∃ k, n = k + 1 := ⟨n - 1, by omega⟩
    unfold maps_DeleteFunc_map_delegate_way_delegate_delegation_delegate_way_delegate_delegation__Delegations_Drop_1_L1
    rw [mleft_some]
    refine pickAny_of (fun e => by rw [e] at hk; cases hk) (fun e he => ?_)
    obtain ⟨he1, he2⟩ := leftL_mem he
    have hlen := leftL_len hnd he
    unfold delegate_Delegations_Drop_1 maps_DeleteFunc_map_delegate_way_delegate_delegation_delegate_way_delegate_delegation__Delegations_Drop_1_B2
    rw [Option.bind_some]
    have ht : (e.1.from_ == u || e.1.to_ == u) = touches u e := rfl
    rw [ht]
    cases hx : touches u e with
    | true =>
      rw [if_pos rfl]
      have hm : mdel (some l) e.1 = some (mdelL e.1 l) := rfl
      rw [hm]
      have e1 : leftL (mdelL e.1 l) (e.1 :: done) = leftL l (e.1 :: done) := by
        rw [del_filter hnd]
        unfold leftL
        rw [List.filter_filter]
        refine List.filter_congr fun p _ => ?_
        by_cases hp : p.1 = e.1 <;> simp [hp]
      refine ih _ _ n (by rw [e1]; omega) (by omega) (nodupK_del hnd) ?_ fun p hp hpd => ?_
      · rw [← ho, del_filter hnd]
        unfold others
        rw [List.filter_filter]
        refine List.filter_congr fun p hp => ?_
        by_cases hpe : p.1 = e.1
        · have : p = e := by
            have h1 := mfind_of_mem hnd (show (p.1, p.2) ∈ l from hp)
            have h2 := mfind_of_mem hnd (show (e.1, e.2) ∈ l from he1)
            rw [hpe, h2] at h1
            exact Prod.ext hpe (Option.some.inj h1).symm
          subst this; simp [hx]
        · simp [hpe]
      · obtain ⟨q1, q2⟩ := (del_mem hnd he1).1 hp
        refine hd p q1 ?_
        rcases List.mem_cons.1 hpd with h | h
        · exact absurd h q2
        · exact h
    | false =>
      rw [if_neg (by simp)]
      refine ih _ _ n (by omega) (by omega) hnd ho fun p hp hpd => ?_
      rcases List.mem_cons.1 hpd with h | h
      · have : p = e := by
          have h1 := mfind_of_mem hnd (show (p.1, p.2) ∈ l from hp)
          have h2 := mfind_of_mem hnd (show (e.1, e.2) ∈ l from he1)
          rw [h, h2] at h1
          exact Prod.ext h (Option.some.inj h1).symm
        subst this; exact hx
      · exact hd p hp h
theorem others_len (u : Str) (l : WL) : (others u l).length ≤ l.length := List.length_filter_le _ _
theorem drop_eq {l : WL} (h : Inv l) (u : Str) : delegate_Delegations_Drop ⟨some l⟩ u = some ((l.length : Int) - ((others u l).length : Int), ⟨some (others u l)⟩) := by
  have hl := h.len
  have ho := others_len u l
  unfold delegate_Delegations_Drop maps_DeleteFunc_map_delegate_way_delegate_delegation_delegate_way_delegate_delegation__Delegations_Drop_1
  have := dropf_loop u l h.nd l.length l [] fuel (by rw [leftL_nil]) (by unfold fuel; omega) h.nd rfl (fun p _ hp => by cases hp)
  rw [made_eq, Option.bind_some, if_neg (by simp)]
  simp only
  rw [this, Option.bind_some, mlen_some, mlen_some, w64 (by omega) (by omega)]
theorem inv_others {l : WL} (h : Inv l) (u : Str) : Inv (others u l) := ⟨nodupK_filter h.nd, by have := others_len u l; have := h.len; omega, fun p hp => h.good p (List.mem_filter.1 hp).1⟩
theorem rdrop_loop (l : WL) (u : Str) (hl : l.length ≤ 1000) : ∀ (r : WL) (j n : Nat) (out : WL), l.drop j = r → r.length < n → out = others u (l.take j) →
    ref35_Delegations_Drop_L1 n (rf l) u (out.map toOne) (j : Int) = some ((l.length : Int) - ((others u l).length : Int), rf (others u l)) := by
  intro r
  induction r with
  | nil =>
    intro j n out hd hn ho
    obtain ⟨n, rfl⟩ : ∃ k, n = k + 1 := ⟨n - 1, by simp at hn; omega⟩
    have := drop_nil hd
    rw [List.take_of_length_le this] at ho
    have h2 := others_len u l
    simp only [ref35_Delegations_Drop_L1, List.length_map, show ¬ ((j : Int) < l.length) by omega, decide_false, Bool.false_eq_true, if_false, ho, w64 (show -9223372036854775808 ≤ (l.length : Int) - ((others u l).length : Int) by omega) (by omega), rf]
  | cons x r ih =>
    intro j n out hd hn ho
    obtain ⟨n, rfl⟩ : ∃ k, n = k + 1 := ⟨n - 1, by simp at hn; omega⟩
    obtain ⟨h1, h2, h3⟩ := drop_more hd
    have hlt := drop_lt hd
    have hol : out.length ≤ j := by
      rw [ho]
      have := others_len u (l.take j)
      simp at this; omega
    have e : (if (!(x.1.from_ == u)) = true then some (!(x.1.to_ == u)) else some false) = some (!touches u x) := by unfold touches; cases x.1.from_ == u <;> simp
    simp only [ref35_Delegations_Drop_L1, List.length_map, show ((j : Int) < l.length) by omega, decide_true, if_true, idx_n, List.getElem?_map, h2, Option.map_some, Option.bind_some, ref35_Delegations_Drop_B2, w64n (show j < 9223372036854775807 by omega), toOne]
    rw [e, Option.bind_some]
    cases hx : touches u x with
    | true =>
      rw [if_neg (by simp)]
      refine ih (j + 1) n out h3 (by simp at hn; omega) ?_
      rw [take_more hd, ho]; simp [others, hx]
    | false =>
      rw [if_pos (by simp), chk_t (by simp [fitL]; omega)]
      have := ih (j + 1) n (out ++ [x]) h3 (by simp at hn; omega) (by rw [take_more hd, ho]; simp [others, hx])
      rw [List.map_append] at this
      exact this
theorem rdrop_eq {l : WL} (h : Inv l) (u : Str) : ref35_Delegations_Drop (rf l) u = some ((l.length : Int) - ((others u l).length : Int), rf (others u l)) := by
  have hl := h.len
  unfold ref35_Delegations_Drop
  rw [rmade_eq, Option.bind_some, if_neg (by simp)]
  exact rdrop_loop l u (by omega) l 0 fuel [] rfl (by unfold fuel; omega) rfl
/-! ### chains and scopes -/
def dupL : List Str → List Str → Bool
  | _, [] => false
  | p, x :: r => p.contains x || dupL (p ++ [x]) r
theorem dupL_cons (p : List Str) (x : Str) (r : List Str) : dupL p (x :: r) = (p.contains x || dupL (p ++ [x]) r) := rfl
def chn (l : WL) (sc : List Str) (now : Int) : List Str → Int
  | x :: y :: r => if mayR l x y sc now ≠ 0 then mayR l x y sc now else chn l sc now (y :: r)
  | _ => 0
def chainR (l : WL) (us sc : List Str) (now : Int) : Int := if us.length > 5 then 3 else if dupL [] us then 28 else chn l sc now us
theorem drop_two {T : Type} {xs : List T} {i : Nat} {x y : T} (h1 : xs[i]? = some x) (h2 : xs[i + 1]? = some y) : xs.drop i = x :: y :: xs.drop (i + 2) := by
  obtain ⟨a1, a2⟩ := List.getElem?_eq_some_iff.1 h1
  obtain ⟨b1, b2⟩ := List.getElem?_eq_some_iff.1 h2
  rw [List.drop_eq_getElem_cons a1, List.drop_eq_getElem_cons b1, a2, b2]
theorem chn_short (l : WL) (sc : List Str) (now : Int) {xs : List Str} (h : xs.length ≤ 1) : chn l sc now xs = 0 := by
  match xs, h with
  | [], _ => rfl
  | [x], _ => rfl
theorem chain_two {l : WL} (h : Inv l) {us sc : List Str} (hs : sm sc) (hu : us.length ≤ 5) (now : Int) (r0 : delegate_Delegations → List Str → List Str → Int → List Str → Int → Int → Option Int) :
    ∀ (k i n : Nat), us.length - i = k → k < n → i ≤ us.length → delegate_Delegations_Chain_L2 r0 n ⟨some l⟩ us sc now ((i + 1 : Nat) : Int) = some (chn l sc now (us.drop i)) := by
  intro k
  induction k with
  | zero =>
    intro i n hk hn hi
    obtain ⟨n, rfl⟩ : ∃ k, n = k + 1 := ⟨n - 1, by omega⟩
    rw [chn_short _ _ _ (by simp; omega)]
    simp only [delegate_Delegations_Chain_L2, show ¬ (((i + 1 : Nat) : Int) < us.length) by omega, decide_false, Bool.false_eq_true, if_false]
  | succ k ih =>
    intro i n hk hn hi
    obtain ⟨n, rfl⟩ : ∃ k, n = k + 1 := ⟨n - 1, by omega⟩
    by_cases hlast : i + 1 < us.length
    · have h1 : us[i]? = some us[i] := List.getElem?_eq_getElem (by omega)
      have h2 : us[i + 1]? = some us[i + 1] := List.getElem?_eq_getElem hlast
      have ew : IntKind.i64.wrap (((i + 1 : Nat) : Int) - 1) = (i : Int) := by rw [w64 (by omega) (by omega)]; omega
      have ih' := ih (i + 1) n (by omega) (by omega) (by omega)
      rw [drop_two h1 h2, chn]
      rw [List.drop_eq_getElem_cons hlast] at ih'
      simp only [delegate_Delegations_Chain_L2, show (((i + 1 : Nat) : Int) < us.length) by omega, decide_true, if_true, ew, idx_n, h1, h2, Option.bind_some, may_eq h _ _ hs, w64n (show i + 1 < 9223372036854775807 by omega), ih']
      by_cases hm : mayR l us[i] us[i + 1] sc now ≠ 0
      · rw [if_pos (by simpa using hm), if_pos hm]
      · rw [if_neg (by simpa using hm), if_neg hm]
    · rw [chn_short _ _ _ (by simp; omega)]
      simp only [delegate_Delegations_Chain_L2, show ¬ (((i + 1 : Nat) : Int) < us.length) by omega, decide_false, Bool.false_eq_true, if_false]
theorem chain_eq {l : WL} (h : Inv l) (us : List Str) {sc : List Str} (hs : sm sc) (hf : fits us) (now : Int) : delegate_Delegations_Chain ⟨some l⟩ us sc now = some (chainR l us sc now) := by
  unfold delegate_Delegations_Chain chainR
  rw [made_eq, Option.bind_some, if_neg (by simp)]
  by_cases h5 : us.length > 5
  · rw [if_pos (by simp; omega), if_pos h5]
  rw [if_neg (by simp; omega), if_neg h5]
  have key : ∀ (r : List Str) (i n : Nat), us.drop i = r → i ≤ us.length → r.length < n →
      delegate_Delegations_Chain_L1 n ⟨some l⟩ us sc now us (us.length : Int) (i : Int) = some (if dupL (us.take i) r then 28 else chn l sc now us) := by
    intro r
    induction r with
    | nil =>
      intro i n hd hi hn
      obtain ⟨n, rfl⟩ : ∃ k, n = k + 1 := ⟨n - 1, by simp at hn; omega⟩
      have := drop_nil hd
      have e := chain_two h (us := us) hs (by omega) now (delegate_Delegations_Chain_L1 n) us.length 0 fuel rfl (by unfold fuel; omega) (by omega)
      have e' : delegate_Delegations_Chain_L2 (delegate_Delegations_Chain_L1 n) fuel ⟨some l⟩ us sc now 1 = _ := e
      simp only [delegate_Delegations_Chain_L1, show ¬ ((i : Int) < us.length) by omega, decide_false, Bool.false_eq_true, if_false, e', List.drop_zero]
      rw [show dupL (us.take i) [] = false from rfl, if_neg (by simp)]
    | cons x r ih =>
      intro i n hd hi hn
      obtain ⟨n, rfl⟩ : ∃ k, n = k + 1 := ⟨n - 1, by simp at hn; omega⟩
      obtain ⟨h1, h2, h3⟩ := drop_more hd
      have hlt := drop_lt hd
      have hft : fits (us.take i) := by unfold fits; rw [take_len hlt]; omega
      simp only [delegate_Delegations_Chain_L1, show ((i : Int) < us.length) by omega, decide_true, if_true, idx_n, h2, Option.bind_some, w64n (show i < 9223372036854775807 by omega)]
      rw [chk_t (by rw [inc_0]; simp; omega), cut_0, slices_Contains_eq _ _ hft, Option.bind_some, dupL_cons]
      by_cases hc : (us.take i).contains x = true
      · rw [if_pos hc, hc, Bool.true_or, if_pos rfl]
      · rw [if_neg hc, Bool.eq_false_iff.2 hc, Bool.false_or, ih (i + 1) n h3 (by omega) (by simp at hn; omega), take_more hd]
  have := key us 0 fuel rfl (by omega) (by unfold fuel; omega)
  rw [show ((0 : Nat) : Int) = 0 from rfl, List.take_zero] at this
  exact this
theorem rchain_three {l : WL} (h : Inv l) {us sc : List Str} (hs : sm sc) (hu : us.length ≤ 5) (now : Int) (r0 : ref35_Delegations → List Str → List Str → Int → Int → Option Int) :
    ∀ (k i n : Nat), us.length - i = k → k < n → i ≤ us.length → ref35_Delegations_Chain_L3 r0 n (rf l) us sc now (i : Int) = some (chn l sc now (us.drop i)) := by
  intro k
  induction k with
  | zero =>
    intro i n hk hn hi
    obtain ⟨n, rfl⟩ : ∃ k, n = k + 1 := ⟨n - 1, by omega⟩
    rw [chn_short _ _ _ (by simp; omega)]
    simp only [ref35_Delegations_Chain_L3, w64n (show i < 9223372036854775807 by omega), show ¬ (((i + 1 : Nat) : Int) < us.length) by omega, decide_false, Bool.false_eq_true, if_false]
  | succ k ih =>
    intro i n hk hn hi
    obtain ⟨n, rfl⟩ : ∃ k, n = k + 1 := ⟨n - 1, by omega⟩
    by_cases hlast : i + 1 < us.length
    · have h1 : us[i]? = some us[i] := List.getElem?_eq_getElem (by omega)
      have h2 : us[i + 1]? = some us[i + 1] := List.getElem?_eq_getElem hlast
      have ih' := ih (i + 1) n (by omega) (by omega) (by omega)
      rw [drop_two h1 h2, chn]
      rw [List.drop_eq_getElem_cons hlast] at ih'
      simp only [ref35_Delegations_Chain_L3, w64n (show i < 9223372036854775807 by omega), show (((i + 1 : Nat) : Int) < us.length) by omega, decide_true, if_true, idx_n, h1, h2, Option.bind_some, rmay_eq h _ _ hs, ih']
      by_cases hm : mayR l us[i] us[i + 1] sc now ≠ 0
      · rw [if_pos (by simpa using hm), if_pos hm]
      · rw [if_neg (by simpa using hm), if_neg hm]
    · rw [chn_short _ _ _ (by simp; omega)]
      simp only [ref35_Delegations_Chain_L3, w64n (show i < 9223372036854775807 by omega), show ¬ (((i + 1 : Nat) : Int) < us.length) by omega, decide_false, Bool.false_eq_true, if_false]
theorem rchain_two (l : WL) (us sc : List Str) (now : Int) (r0 : ref35_Delegations → List Str → List Str → Int → Int → Option Int) (i : Nat) (x : Str) (hx : us[i]? = some x) (hu : us.length ≤ 5) :
    ∀ (k j n : Nat), i - j = k → k < n → j ≤ i → ref35_Delegations_Chain_L2 r0 n (rf l) us sc now (i : Int) (j : Int) = if ((us.take i).drop j).contains x then some 28 else r0 (rf l) us sc now ((i + 1 : Nat) : Int) := by
  have hi : i < us.length := (List.getElem?_eq_some_iff.1 hx).1
  intro k
  induction k with
  | zero =>
    intro j n hk hn hj
    obtain ⟨n, rfl⟩ : ∃ k, n = k + 1 := ⟨n - 1, by omega⟩
    have e : (us.take i).drop j = [] := List.drop_eq_nil_of_le (by simp; omega)
    simp only [ref35_Delegations_Chain_L2, show ¬ ((j : Int) < (i : Int)) by omega, decide_false, Bool.false_eq_true, if_false, e, List.contains_nil, w64n (show i < 9223372036854775807 by omega)]
  | succ k ih =>
    intro j n hk hn hj
    obtain ⟨n, rfl⟩ : ∃ k, n = k + 1 := ⟨n - 1, by omega⟩
    have hjl : j < (us.take i).length := by simp; omega
    have e : (us.take i).drop j = us[j] :: (us.take i).drop (j + 1) := by rw [List.drop_eq_getElem_cons hjl, List.getElem_take]
    have h1 : us[j]? = some us[j] := List.getElem?_eq_getElem (by omega)
    simp only [ref35_Delegations_Chain_L2, show ((j : Int) < (i : Int)) by omega, decide_true, if_true, idx_n, h1, hx, Option.bind_some, w64n (show j < 9223372036854775807 by omega), ih (j + 1) n (by omega) (by omega) (by omega), e, List.contains_cons]
    by_cases hc : us[j] = x
    · rw [if_pos (by simpa using hc), if_pos (by simp [hc])]
    · have hc' : (x == us[j]) = false := by simpa using fun h => hc (Eq.symm h)
      rw [if_neg (by simpa using hc), hc', Bool.false_or]
theorem rchain_eq {l : WL} (h : Inv l) (us : List Str) {sc : List Str} (hs : sm sc) (now : Int) : ref35_Delegations_Chain (rf l) us sc now = some (chainR l us sc now) := by
  unfold ref35_Delegations_Chain chainR
  rw [rmade_eq, Option.bind_some, if_neg (by simp)]
  by_cases h5 : us.length > 5
  · rw [if_pos (by simp; omega), if_pos h5]
  rw [if_neg (by simp; omega), if_neg h5]
  have key : ∀ (r : List Str) (i n : Nat), us.drop i = r → i ≤ us.length → r.length < n →
      ref35_Delegations_Chain_L1 n (rf l) us sc now (i : Int) = some (if dupL (us.take i) r then 28 else chn l sc now us) := by
    intro r
    induction r with
    | nil =>
      intro i n hd hi hn
      obtain ⟨n, rfl⟩ : ∃ k, n = k + 1 := ⟨n - 1, by simp at hn; omega⟩
      have := drop_nil hd
      have e := rchain_three h (us := us) hs (by omega) now (ref35_Delegations_Chain_L1 n) us.length 0 fuel rfl (by unfold fuel; omega) (by omega)
      have e' : ref35_Delegations_Chain_L3 (ref35_Delegations_Chain_L1 n) fuel (rf l) us sc now 0 = _ := e
      simp only [ref35_Delegations_Chain_L1, show ¬ ((i : Int) < us.length) by omega, decide_false, Bool.false_eq_true, if_false, e', List.drop_zero]
      rw [show dupL (us.take i) [] = false from rfl, if_neg (by simp)]
    | cons x r ih =>
      intro i n hd hi hn
      obtain ⟨n, rfl⟩ : ∃ k, n = k + 1 := ⟨n - 1, by simp at hn; omega⟩
      obtain ⟨h1, h2, h3⟩ := drop_more hd
      have hlt := drop_lt hd
      have e := rchain_two l us sc now (ref35_Delegations_Chain_L1 n) i x h2 (by omega) i 0 fuel rfl (by unfold fuel; omega) (by omega)
      have e' : ref35_Delegations_Chain_L2 (ref35_Delegations_Chain_L1 n) fuel (rf l) us sc now (i : Int) 0 = _ := e
      simp only [ref35_Delegations_Chain_L1, show ((i : Int) < us.length) by omega, decide_true, if_true, e', List.drop_zero]
      rw [dupL_cons]
      by_cases hc : (us.take i).contains x = true
      · rw [if_pos hc, hc, Bool.true_or, if_pos rfl]
      · rw [if_neg hc, Bool.eq_false_iff.2 hc, Bool.false_or, ih (i + 1) n h3 (by omega) (by simp at hn; omega), take_more hd]
  have := key us 0 fuel rfl (by omega) (by unfold fuel; omega)
  rw [show ((0 : Nat) : Int) = 0 from rfl, List.take_zero] at this
  exact this
theorem sm_nil : sm [] := ⟨by simp, fun s h => by cases h⟩
def scR (l : WL) (f t : Str) (now : Int) : List Str := if mayR l f t [] now ≠ 0 then [] else sorted ((mfind (⟨f, t⟩ : delegate_way) l).getD ⟨[], ⟨0, 0⟩⟩).scopes
theorem may_some {l : WL} {f t : Str} {sc : List Str} {now : Int} (h : mayR l f t sc now = 0) : ∃ d, mfind ⟨f, t⟩ l = some d ∧ ckW d.window now = 0 ∧ within sc d.scopes = true := by
  unfold mayR at h
  rcases opt_cases (mfind (⟨f, t⟩ : delegate_way) l) with hf | ⟨d, hf⟩
  · rw [hf] at h; cases h
  · rw [hf] at h
    simp only at h
    by_cases hc : ckW d.window now ≠ 0
    · rw [if_pos hc] at h; exact absurd h hc
    · rw [if_neg hc] at h
      cases hw : within sc d.scopes with
      | true => exact ⟨d, hf, by simpa using hc, hw⟩
      | false => rw [hw] at h; cases h
theorem scopes_eq {l : WL} (h : Inv l) (f t : Str) (now : Int) : delegate_Delegations_Scopes ⟨some l⟩ f t now = some (scR l f t now) := by
  unfold delegate_Delegations_Scopes scR
  rw [may_eq h f t sm_nil, Option.bind_some]
  by_cases hm : mayR l f t [] now ≠ 0
  · rw [if_pos (by simpa using hm), if_pos hm]
  · rw [if_neg (by simpa using hm), if_neg hm]
    obtain ⟨d, hf, _⟩ := may_some (by simpa using hm)
    unfold mgetD
    simp only [Option.getD_some, hf, Option.bind_some, scope_Sorted_eq _ (h.at hf).sm]
theorem rscopes_eq {l : WL} (h : Inv l) (f t : Str) (now : Int) : ref35_Delegations_Scopes (rf l) f t now = some (scR l f t now) := by
  unfold ref35_Delegations_Scopes scR
  rw [rmade_eq, Option.bind_some, if_neg (by simp), rmay_eq h f t sm_nil, Option.bind_some, Option.bind_some]
  by_cases hm : mayR l f t [] now ≠ 0
  · rw [if_pos (by simpa using hm), if_pos hm]
  · rw [if_neg (by simpa using hm), if_neg hm]
    obtain ⟨d, hf, _⟩ := may_some (by simpa using hm)
    rcases rfind h f t with ⟨k, x, h1, h2, h3⟩ | ⟨h1, h2⟩
    · rw [hf] at h3
      have e : d = x := Option.some.inj h3
      subst e
      have := (h.at hf).len
      rw [h1, Option.bind_some, h2.ix, Option.bind_some, hf]
      simp only [toOne, Option.getD_some, ref29_Sorted_eq _ (h.at hf).sm (show d.scopes.length ≤ 500 by simp only at this; omega), Option.bind_some]
    · rw [hf] at h2; cases h2
/-! ### who is reached -/
def ed (l : WL) (s : Str) (now : Int) (p : delegate_way × delegate_delegation) : Bool := mayR l p.1.from_ p.1.to_ [s] now == 0
inductive Rch (l : WL) (s : Str) (now : Int) (to : Str) : Str → Prop
  | base : Rch l s now to to
  | step (p : delegate_way × delegate_delegation) : p ∈ l → Rch l s now to p.1.to_ → ed l s now p = true → Rch l s now to p.1.from_
/-- the sorted list of those that are reached -/
structure IsR (l : WL) (s : Str) (now : Int) (to : Str) (X : List Str) : Prop where
  asc : asc X
  mem : ∀ x, x ∈ X ↔ Rch l s now to x ∧ x ≠ to
theorem rch_all {l : WL} {s : Str} {now : Int} {to : Str} {K : List Str} (h0 : to ∈ K) (hc : ∀ p ∈ l, ed l s now p = true → p.1.to_ ∈ K → p.1.from_ ∈ K) {x : Str} (h : Rch l s now to x) : x ∈ K := by
  induction h with
  | base => exact h0
  | step p hp _ he ih => exact hc p hp he ih
theorem nodup_le : ∀ {A B : List Str}, A.Nodup → (∀ x ∈ A, x ∈ B) → A.length ≤ B.length
  | [], _, _, _ => by simp
  | a :: r, B, hn, h => by
    rw [List.nodup_cons] at hn
    have ha := h a (by simp)
    have := nodup_le (A := r) (B := B.erase a) hn.2 fun x hx => by
      have hne : x ≠ a := fun e => hn.1 (e ▸ hx)
      exact (List.mem_erase_of_ne hne).2 (h x (by simp [hx]))
    rw [List.length_erase_of_mem ha] at this
    have : 0 < B.length := List.length_pos_of_mem ha
    simp only [List.length_cons]; omega
theorem same_key {l : WL} (hn : nodupK l) {p e : delegate_way × delegate_delegation} (hp : p ∈ l) (he : e ∈ l) (h : p.1 = e.1) : p = e := by
  have h1 := mfind_of_mem hn (show (p.1, p.2) ∈ l from hp)
  have h2 := mfind_of_mem hn (show (e.1, e.2) ∈ l from he)
  rw [h, h2] at h1
  exact Prod.ext h (Option.some.inj h1).symm
abbrev SL := List (Str × Bool)
abbrev keys (m : SL) : List Str := m.map Prod.fst
theorem keys_put {m : SL} {f x : Str} : x ∈ keys (mputL f true m) ↔ x = f ∨ x ∈ keys m := by
  induction m with
  | nil => simp [mputL, keys]
  | cons p r ih =>
    unfold mputL
    by_cases e : f = p.1
    · rw [if_pos e]; simp only [keys, List.map_cons, List.mem_cons] at *; rw [← e]; constructor
      · rintro (h | h) <;> simp [h]
      · rintro (h | h | h) <;> simp [h]
    · rw [if_neg e]
      simp only [keys, List.map_cons, List.mem_cons] at *
      rw [ih]
      constructor
      · rintro (h | h | h) <;> simp [h]
      · rintro (h | h | h) <;> simp [h]
theorem find_keys {m : SL} {x : Str} : (mfind x m).isSome = true ↔ x ∈ keys m := by
  cases hf : mfind x m with
  | none =>
    rw [mfind_none] at hf
    simp only [Option.isSome_none, Bool.false_eq_true, false_iff, keys, List.mem_map, not_exists, not_and]
    exact fun p hp => hf p hp
  | some b => simp only [Option.isSome_some, true_iff, keys, List.mem_map]; exact ⟨_, mfind_mem hf, rfl⟩
/-- what the walk knows: c were taken off the queue q, m are seen -/
structure RI (l : WL) (s : Str) (now : Int) (to : Str) (m : SL) (q : List Str) (c : Nat) : Prop where
  nd : nodupK m
  val : ∀ p ∈ m, p.2 = true
  sub : ∀ x ∈ q, x ∈ keys m
  sound : ∀ x ∈ keys m, Rch l s now to x
  hto : to ∈ keys m
  from_ : ∀ x ∈ keys m, x = to ∨ x ∈ l.map (·.1.from_)
  cnt : c + q.length = m.length
theorem RI.len {l : WL} {s : Str} {now : Int} {to : Str} {m : SL} {q : List Str} {c : Nat} (h : RI l s now to m q c) : m.length ≤ l.length + 1 := by
  have := nodup_le (A := keys m) (B := to :: l.map (·.1.from_)) h.nd fun x hx => by rcases h.from_ x hx with e | e <;> simp [e]
  simpa [keys] using this
theorem seen_get {m : SL} (hv : ∀ p ∈ m, p.2 = true) (x : Str) : mgetD (some m) x false = decide (x ∈ keys m) := by
  unfold mgetD
  simp only [Option.getD_some]
  cases hf : mfind x m with
  | none =>
    have : x ∉ keys m := fun h => by rw [← find_keys, hf] at h; cases h
    simp [this]
  | some b =>
    have h1 := hv _ (mfind_mem hf)
    have : x ∈ keys m := by rw [← find_keys, hf]; rfl
    simp only at h1
    simp [this, h1]
theorem sm_one {s : Str} (hs : fits s) : sm [s] := ⟨by simp, fun x hx => by simp at hx; subst hx; exact hs⟩
theorem reach_two {l : WL} (h : Inv l) {s : Str} (hs : fits s) (now : Int) (to : Str) (X : List Str) (c : Nat) (r0 : delegate_Delegations → Str → Str → Int → GMap Str Bool → List Str → Option (List Str)) (x : Str)
    (hr0 : ∀ (m : SL) (q : List Str), RI l s now to m q (c + 1) → (∀ p ∈ l, ed l s now p = true → p.1.to_ ∈ keys m → p.1.to_ ∉ q → p.1.from_ ∈ keys m) → r0 ⟨some l⟩ to s now (some m) q = some X) :
    ∀ (k : Nat) (done : List delegate_way) (m : SL) (q : List Str) (n : Nat), (leftL l done).length = k → k < n → RI l s now to m (x :: q) c →
    (∀ p ∈ l, ed l s now p = true → p.1.to_ ∈ keys m → (p.1.to_ ∉ x :: q ∨ (p.1.to_ = x ∧ p.1 ∈ done)) → p.1.from_ ∈ keys m) →
    delegate_Delegations_Reach_L2 r0 n ⟨some l⟩ to s now (some m) (x :: q) done = some X := by
  have hl := h.len
  intro k
  induction k with
  | zero =>
    intro done m q n hk hn hi hc
    obtain ⟨n, rfl⟩ : ∃ k, n = k + 1 := ⟨n - 1, by omega⟩
    have e := List.eq_nil_of_length_eq_zero hk
    have hm := hi.len
    have hcnt := hi.cnt
    simp only [List.length_cons] at hcnt
    unfold delegate_Delegations_Reach_L2
    rw [mleft_some, e]
    refine pickAny_of (fun _ => ?_) (fun e he => by cases he)
    have hin : inc 1 ((x :: q).length : Nat) (x :: q).length = true := by
      have := inc_n (i := 1) (j := (x :: q).length) (n := (x :: q).length)
      rw [show (((1 : Nat) : Int)) = 1 from rfl] at this
      rw [this]; simp
    have hcut : cut (x :: q) 1 ((x :: q).length : Nat) = q := by
      have := cut_n (x :: q) 1 (x :: q).length
      rw [show (((1 : Nat) : Int)) = 1 from rfl] at this
      rw [this]; simp
    rw [chk_t hin, hcut]
    refine hr0 m q ⟨hi.nd, hi.val, fun y hy => hi.sub y (by simp [hy]), hi.sound, hi.hto, hi.from_, by omega⟩ fun p hp he ht hq => ?_
    refine hc p hp he ht ?_
    by_cases hx : p.1.to_ = x
    · refine .inr ⟨hx, Classical.byContradiction fun hnd => ?_⟩
      have : p ∈ leftL l done := List.mem_filter.2 ⟨hp, by simpa using hnd⟩
      rw [e] at this; cases this
    · exact .inl (by simp [hx, hq])
  | succ k ih =>
    intro done m q n hk hn hi hc
    obtain ⟨n, rfl⟩ : ∃ k, n = k + 1 := ⟨n - 1, by omega⟩
    have hm := hi.len
    have hcnt := hi.cnt
    simp only [List.length_cons] at hcnt
    unfold delegate_Delegations_Reach_L2
    rw [mleft_some]
    refine pickAny_of (fun e => by rw [e] at hk; cases hk) (fun e he => ?_)
    obtain ⟨he1, he2⟩ := leftL_mem he
    have hlen := leftL_len h.nd he
    have hix : idx (x :: q) 0 = some x := rfl
    have skip : (e.1.to_ ≠ x ∨ e.1.from_ ∈ keys m ∨ ed l s now e = false) → delegate_Delegations_Reach_L2 r0 n ⟨some l⟩ to s now (some m) (x :: q) (e.1 :: done) = some X := by
      intro hsk
      refine ih (e.1 :: done) m q n (by omega) (by omega) hi fun p hp hpe ht hq => ?_
      rcases hq with hq | ⟨hq1, hq2⟩
      · exact hc p hp hpe ht (.inl hq)
      · rcases List.mem_cons.1 hq2 with hq2 | hq2
        · have := same_key h.nd hp he1 hq2
          subst this
          rcases hsk with hsk | hsk | hsk
          · exact absurd hq1 hsk
          · exact hsk
          · rw [hpe] at hsk; cases hsk
        · exact hc p hp hpe ht (.inr ⟨hq1, hq2⟩)
    rw [hix, Option.bind_some]
    unfold delegate_Delegations_Reach_B3 delegate_Delegations_Reach_B4
    by_cases hx : e.1.to_ = x
    · rw [if_pos (by simpa using hx), Option.bind_some, seen_get hi.val]
      by_cases hf : e.1.from_ ∈ keys m
      · rw [if_neg (by simp [hf]), if_neg (by simp)]
        exact skip (.inr (.inl hf))
      · rw [if_pos (by simp [hf]), may_eq h _ _ (sm_one hs), Option.bind_some]
        cases hee : mayR l e.1.from_ e.1.to_ [s] now == 0 with
        | false =>
          rw [if_neg (by simp)]
          exact skip (.inr (.inr hee))
        | true =>
          rw [if_pos rfl, chk_t (show (some m : GMap Str Bool).isSome = true from rfl), chk_t (by simp [fitL]; omega)]
          have hput : mput (some m) e.1.from_ true = some (mputL e.1.from_ true m) := rfl
          rw [hput, List.cons_append]
          have hfn : (mfind e.1.from_ m).isSome = false := by
            cases hz : (mfind e.1.from_ m).isSome with
            | false => rfl
            | true => exact absurd (find_keys.1 hz) hf
          refine ih (e.1 :: done) _ _ n (by omega) (by omega) ⟨nodupK_put hi.nd, fun p hp => ?_, fun y hy => ?_, fun y hy => ?_, keys_put.2 (.inr hi.hto), fun y hy => ?_, ?_⟩ fun p hp hpe ht hq => ?_
          · rcases mem_put hp with rfl | hp
            · rfl
            · exact hi.val p hp
          · rw [keys_put]
            rcases List.mem_cons.1 hy with hy | hy
            · exact .inr (hi.sub y (by simp [hy]))
            · rcases List.mem_append.1 hy with hy | hy
              · exact .inr (hi.sub y (by simp [hy]))
              · simp at hy; exact .inl hy
          · rcases keys_put.1 hy with rfl | hy
            · exact .step e he1 (hi.sound _ (hx ▸ hi.sub x (by simp))) hee
            · exact hi.sound y hy
          · rcases keys_put.1 hy with rfl | hy
            · exact .inr (List.mem_map.2 ⟨e, he1, rfl⟩)
            · exact hi.from_ y hy
          · rw [len_put, hfn]; simp; omega
          · rw [keys_put]
            rcases hq with hq | ⟨hq1, hq2⟩
            · have hpf : p.1.to_ ≠ e.1.from_ := fun e' => hq (by simp [e'])
              rcases keys_put.1 ht with ht | ht
              · exact absurd ht hpf
              · exact .inr (hc p hp hpe ht (.inl fun hm' => hq (by
                  rcases List.mem_cons.1 hm' with hm' | hm'
                  · simp [hm']
                  · simp [hm'])))
            · rcases List.mem_cons.1 hq2 with hq2 | hq2
              · exact .inl (by rw [hq2])
              · have : p.1.to_ ∈ keys m := hq1 ▸ hi.sub x (by simp)
                exact .inr (hc p hp hpe this (.inr ⟨hq1, hq2⟩))
    · rw [if_neg (by simpa using hx), if_neg (by simp)]
      exact skip (.inl hx)
theorem keys_del {m : SL} (hn : nodupK m) (to x : Str) : x ∈ keys (mdelL to m) ↔ x ∈ keys m ∧ x ≠ to := by
  rw [del_filter hn]
  simp only [keys, List.mem_map, List.mem_filter, decide_eq_true_eq]
  constructor
  · rintro ⟨p, ⟨h1, h2⟩, rfl⟩; exact ⟨⟨p, h1, rfl⟩, h2⟩
  · rintro ⟨⟨p, h1, rfl⟩, h2⟩; exact ⟨p, ⟨h1, h2⟩, rfl⟩
theorem reach_one {l : WL} (h : Inv l) {s : Str} (hs : fits s) (now : Int) (to : Str) (X : List Str) (hX : IsR l s now to X) :
    ∀ (k c n : Nat) (m : SL) (q : List Str), l.length + 1 - c = k → k < n → RI l s now to m q c → (∀ p ∈ l, ed l s now p = true → p.1.to_ ∈ keys m → p.1.to_ ∉ q → p.1.from_ ∈ keys m) →
    delegate_Delegations_Reach_L1 n ⟨some l⟩ to s now (some m) q = some X := by
  have hl := h.len
  have fin : ∀ (m : SL) (c : Nat), RI l s now to m [] c → (∀ p ∈ l, ed l s now p = true → p.1.to_ ∈ keys m → p.1.to_ ∉ ([] : List Str) → p.1.from_ ∈ keys m) →
      (lib_SortedKeys (mdel (some m) to)).bind (fun y172 => some (y172)) = some X := by
    intro m c hi hc
    have hm := hi.len
    have hd : mdel (some m) to = some (mdelL to m) := rfl
    have hnd := nodupK_del (k := to) hi.nd
    have hlen : (mdelL to m).length ≤ m.length := by have := len_del (k := to) hi.nd; omega
    unfold lib_SortedKeys
    rw [hd, Option.getD_some, chk_t, Option.bind_some]
    · congr 1
      refine asc_unique (sortS_asc hnd) hX.asc fun x => ?_
      rw [(sortS_perm _).mem_iff, hX.mem]
      have := keys_del hi.nd to x
      rw [this]
      constructor
      · rintro ⟨h1, h2⟩; exact ⟨hi.sound x h1, h2⟩
      · rintro ⟨h1, h2⟩; exact ⟨rch_all hi.hto (fun p hp he ht => hc p hp he ht (by simp)) h1, h2⟩
    · rw [Bool.and_eq_true]
      refine ⟨by simp; omega, List.all_eq_true.2 fun p hp => ?_⟩
      have hk : p.1 ∈ keys (mdelL to m) := List.mem_map.2 ⟨p, hp, rfl⟩
      obtain ⟨k1, k2⟩ := (keys_del hi.nd to p.1).1 hk
      rcases hi.from_ _ k1 with e | e
      · exact absurd e k2
      · obtain ⟨w, hw, e⟩ := List.mem_map.1 e
        have := word_len (h.good w hw).frm
        have e : w.1.from_ = p.1 := e
        rw [← e]
        exact decide_eq_true (Nat.le_trans this.2 (by decide))
  intro k
  induction k with
  | zero =>
    intro c n m q hk hn hi hc
    obtain ⟨n, rfl⟩ : ∃ k, n = k + 1 := ⟨n - 1, by omega⟩
    have hm := hi.len
    have hcnt := hi.cnt
    have hq : q = [] := List.eq_nil_of_length_eq_zero (by omega)
    subst hq
    unfold delegate_Delegations_Reach_L1
    rw [if_neg (by simp)]
    exact fin m c hi hc
  | succ k ih =>
    intro c n m q hk hn hi hc
    obtain ⟨n, rfl⟩ : ∃ k, n = k + 1 := ⟨n - 1, by omega⟩
    unfold delegate_Delegations_Reach_L1
    cases q with
    | nil =>
      rw [if_neg (by simp)]
      exact fin m c hi hc
    | cons x q =>
      rw [if_pos (by simp)]
      refine reach_two h hs now to X c (delegate_Delegations_Reach_L1 n) x (fun m' q' hi' hc' => ih (c + 1) n m' q' (by omega) (by omega) hi' hc') l.length [] m q fuel (by rw [leftL_nil]) (by unfold fuel; omega) hi fun p hp he ht hq => ?_
      rcases hq with hq | ⟨_, hq⟩
      · exact hc p hp he ht hq
      · cases hq
theorem reach_eq {l : WL} (h : Inv l) {s : Str} (hs : fits s) (now : Int) (to : Str) {X : List Str} (hX : IsR l s now to X) : delegate_Delegations_Reach ⟨some l⟩ to s now = some X := by
  have hl := h.len
  unfold delegate_Delegations_Reach
  rw [made_eq, Option.bind_some, if_neg (by simp), chk_t (show (some [] : GMap Str Bool).isSome = true from rfl)]
  have hF : l.length + 1 < fuel := by unfold fuel; omega
  refine reach_one h hs now to X hX (l.length + 1) 0 fuel [(to, true)] [to] rfl hF ⟨by simp [nodupK], by simp, by simp [keys], fun x hx => ?_, by simp [keys], by simp [keys], rfl⟩ fun p hp he ht hq => ?_
  · simp [keys] at hx; subst hx; exact .base
  · simp [keys] at ht; simp [ht] at hq
def once : List Str → List Str
  | [] => []
  | x :: r => if x ∈ r then once r else x :: once r
theorem once_mem : ∀ {l : List Str} {x : Str}, x ∈ once l ↔ x ∈ l
  | [], x => Iff.rfl
  | y :: r, x => by
    unfold once
    split
    · rename_i h
      rw [once_mem, List.mem_cons]
      exact ⟨.inr, fun e => by rcases e with rfl | e; exact h; exact e⟩
    · rw [List.mem_cons, List.mem_cons, once_mem]
theorem once_nodup : ∀ l : List Str, (once l).Nodup
  | [] => List.nodup_nil
  | y :: r => by
    unfold once
    split
    · exact once_nodup r
    · rename_i h
      rw [List.nodup_cons, once_mem]
      exact ⟨h, once_nodup r⟩
theorem isR_exists (l : WL) (s : Str) (now : Int) (to : Str) : ∃ X, IsR l s now to X := by
  refine ⟨sortS ((once (l.map (·.1.from_))).filter fun x => @decide (Rch l s now to x ∧ x ≠ to) (Classical.propDecidable _)), sortS_asc (List.filter_sublist.nodup (once_nodup _)), fun x => ?_⟩
  rw [(sortS_perm _).mem_iff, List.mem_filter, once_mem]
  simp only [decide_eq_true_eq]
  constructor
  · exact fun h => h.2
  · intro h
    refine ⟨?_, h⟩
    cases h.1 with
    | base => exact absurd rfl h.2
    | step p hp _ _ => exact List.mem_map.2 ⟨p, hp, rfl⟩
/-! ### the specification of who is reached -/
theorem has_eq (l : List Str) (s : Str) (hl : l.length ≤ 1000) : ref35_has l s = some (l.contains s) := by
  have key : ∀ (r : List Str) (i n : Nat), l.drop i = r → i ≤ l.length → r.length < n → ref35_has_L1 n l s (i : Int) = some (r.contains s) := by
    intro r
    induction r with
    | nil =>
      intro i n hd hi hn
      obtain ⟨n, rfl⟩ : ∃ k, n = k + 1 := ⟨n - 1, by simp at hn; omega⟩
      have := drop_nil hd
      simp only [ref35_has_L1, show ¬ ((i : Int) < l.length) by omega, decide_false, Bool.false_eq_true, if_false, List.contains_nil]
    | cons x r ih =>
      intro i n hd hi hn
      obtain ⟨n, rfl⟩ : ∃ k, n = k + 1 := ⟨n - 1, by simp at hn; omega⟩
      obtain ⟨h1, h2, h3⟩ := drop_more hd
      have hlt := drop_lt hd
      simp only [ref35_has_L1, show ((i : Int) < l.length) by omega, decide_true, if_true, idx_n, h2, Option.bind_some, w64n (show i < 9223372036854775807 by omega), ih (i + 1) n h3 (by omega) (by simp at hn; omega)]
      rw [List.contains_cons]
      by_cases hx : x = s
      · rw [if_pos (by simpa using hx), hx]; simp
      · have : (s == x) = false := by simpa using fun h => hx (Eq.symm h)
        rw [if_neg (by simpa using hx), this, Bool.false_or]
  exact key l 0 fuel rfl (by omega) (by unfold fuel; omega)
structure RS (l : WL) (s : Str) (now : Int) (to : Str) (m : List Str) : Prop where
  nd : m.Nodup
  hd : ∃ r, m = to :: r
  sound : ∀ x ∈ m, Rch l s now to x
  from_ : ∀ x ∈ m, x = to ∨ x ∈ l.map (·.1.from_)
theorem RS.len {l : WL} {s : Str} {now : Int} {to : Str} {m : List Str} (h : RS l s now to m) : m.length ≤ l.length + 1 := by
  have := nodup_le (B := to :: l.map (·.1.from_)) h.nd fun x hx => by rcases h.from_ x hx with e | e <;> simp [e]
  simpa using this
theorem rreach_two {l : WL} (h : Inv l) {s : Str} (hs : fits s) (now : Int) (to : Str) (X : List Str) (i : Nat) (r0 : ref35_Delegations → Str → Int → List Str → Int → Option (List Str)) (x : Str)
    (hr0 : ∀ (m : List Str), RS l s now to m → i + 1 ≤ m.length → (∀ p ∈ l, ed l s now p = true → p.1.to_ ∈ m.take (i + 1) → p.1.from_ ∈ m) → r0 (rf l) s now m ((i + 1 : Nat) : Int) = some X) :
    ∀ (r : WL) (k n : Nat) (m : List Str), l.drop k = r → r.length < n → RS l s now to m → m[i]? = some x →
    (∀ p ∈ l, ed l s now p = true → (p.1.to_ ∈ m.take i ∨ (p.1.to_ = x ∧ p ∈ l.take k)) → p.1.from_ ∈ m) →
    ref35_Delegations_Reach_L2 r0 n (rf l) s now m (i : Int) (k : Int) = some X := by
  have hl := h.len
  intro r
  induction r with
  | nil =>
    intro k n m hd hn hi hx hc
    obtain ⟨n, rfl⟩ : ∃ k, n = k + 1 := ⟨n - 1, by simp at hn; omega⟩
    have hle := drop_nil hd
    have hil := (List.getElem?_eq_some_iff.1 hx).1
    have hm := hi.len
    simp only [ref35_Delegations_Reach_L2, List.length_map, show ¬ ((k : Int) < l.length) by omega, decide_false, Bool.false_eq_true, if_false, w64n (show i < 9223372036854775807 by omega)]
    refine hr0 m hi (by omega) fun p hp he ht => hc p hp he ?_
    rw [List.take_of_length_le hle]
    have e : m.take (i + 1) = m.take i ++ [x] := by rw [List.take_add_one, hx]; rfl
    rw [e] at ht
    rcases List.mem_append.1 ht with ht | ht
    · exact .inl ht
    · simp at ht; exact .inr ⟨ht, hp⟩
  | cons e r ih =>
    intro k n m hd hn hi hx hc
    obtain ⟨n, rfl⟩ : ∃ k, n = k + 1 := ⟨n - 1, by simp at hn; omega⟩
    obtain ⟨h1, h2, h3⟩ := drop_more hd
    have hlt := drop_lt hd
    have hil := (List.getElem?_eq_some_iff.1 hx).1
    have hm := hi.len
    have he1 : e ∈ l := List.mem_of_getElem? h2
    have skip : (e.1.to_ ≠ x ∨ e.1.from_ ∈ m ∨ ed l s now e = false) → ref35_Delegations_Reach_L2 r0 n (rf l) s now m (i : Int) ((k + 1 : Nat) : Int) = some X := by
      intro hsk
      refine ih (k + 1) n m h3 (by simp at hn; omega) hi hx fun p hp hpe hq => ?_
      rcases hq with hq | ⟨hq1, hq2⟩
      · exact hc p hp hpe (.inl hq)
      · rw [take_more hd] at hq2
        rcases List.mem_append.1 hq2 with hq2 | hq2
        · exact hc p hp hpe (.inr ⟨hq1, hq2⟩)
        · simp at hq2; subst hq2
          rcases hsk with hsk | hsk | hsk
          · exact absurd hq1 hsk
          · exact hsk
          · rw [hpe] at hsk; cases hsk
    simp only [ref35_Delegations_Reach_L2, List.length_map, show ((k : Int) < l.length) by omega, decide_true, if_true, idx_n, List.getElem?_map, h2, Option.map_some, Option.bind_some, hx, toOne, has_eq m _ (show m.length ≤ 1000 by omega),
      rmay_eq h _ _ (sm_one hs), ref35_Delegations_Reach_B3, ref35_Delegations_Reach_B4, w64n (show k < 9223372036854775807 by omega)]
    by_cases hxe : e.1.to_ = x
    · rw [if_pos (by simpa using hxe)]
      by_cases hf : e.1.from_ ∈ m
      · rw [if_neg (by simp [hf]), if_neg (by simp)]
        exact skip (.inr (.inl hf))
      · rw [if_pos (by simp [hf])]
        cases hee : mayR l e.1.from_ e.1.to_ [s] now == 0 with
        | false =>
          rw [if_neg (by simp)]
          exact skip (.inr (.inr hee))
        | true =>
          rw [if_pos rfl, chk_t (by simp [fitL]; omega)]
          have htk : (m ++ [e.1.from_]).take i = m.take i := List.take_append_of_le_length (by omega)
          refine ih (k + 1) n (m ++ [e.1.from_]) h3 (by simp at hn; omega) ⟨?_, ?_, fun y hy => ?_, fun y hy => ?_⟩ (by rw [List.getElem?_append_left hil]; exact hx) fun p hp hpe hq => ?_
          · rw [List.nodup_append]
            exact ⟨hi.nd, by simp, fun a ha b hb => by simp at hb; subst hb; exact fun e' => hf (e' ▸ ha)⟩
          · obtain ⟨r', e'⟩ := hi.hd
            exact ⟨r' ++ [e.1.from_], by rw [e']; rfl⟩
          · rcases List.mem_append.1 hy with hy | hy
            · exact hi.sound y hy
            · simp at hy; subst hy
              exact .step e he1 (hxe ▸ hi.sound x (List.mem_of_getElem? hx)) hee
          · rcases List.mem_append.1 hy with hy | hy
            · exact hi.from_ y hy
            · simp at hy; subst hy; exact .inr (List.mem_map.2 ⟨e, he1, rfl⟩)
          · rw [htk] at hq
            rcases hq with hq | ⟨hq1, hq2⟩
            · exact List.mem_append.2 (.inl (hc p hp hpe (.inl hq)))
            · rw [take_more hd] at hq2
              rcases List.mem_append.1 hq2 with hq2 | hq2
              · exact List.mem_append.2 (.inl (hc p hp hpe (.inr ⟨hq1, hq2⟩)))
              · simp at hq2; subst hq2; simp
    · rw [if_neg (by simpa using hxe), if_neg (by simp)]
      exact skip (.inl hxe)
theorem rreach_five (m : List Str) (hm : m.length ≤ 1000) (r0 : ref35_Delegations → Str → Int → List Str → Int → Option (List Str)) (X : List Str) (hX : asc X) (hXm : ∀ y, y ∈ X ↔ y ∈ m.drop 1) :
    ∀ (r : List Str) (j n : Nat) (out : List Str), m.drop (j + 1) = r → r.length < n → out.length ≤ j → asc out → (∀ y, y ∈ out ↔ y ∈ (m.drop 1).take j) → ref35_Delegations_Reach_L5 r0 n m out ((j + 1 : Nat) : Int) = some X := by
  intro r
  induction r with
  | nil =>
    intro j n out hd hn ho ha hy
    obtain ⟨n, rfl⟩ : ∃ k, n = k + 1 := ⟨n - 1, by simp at hn; omega⟩
    have hle := drop_nil hd
    simp only [ref35_Delegations_Reach_L5, show ¬ (((j + 1 : Nat) : Int) < m.length) by omega, decide_false, Bool.false_eq_true, if_false]
    rw [List.take_of_length_le (by simp; omega)] at hy
    congr 1
    exact asc_unique ha hX fun y => (hy y).trans (hXm y).symm
  | cons x r ih =>
    intro j n out hd hn ho ha hy
    obtain ⟨n, rfl⟩ : ∃ k, n = k + 1 := ⟨n - 1, by simp at hn; omega⟩
    obtain ⟨h1, h2, h3⟩ := drop_more hd
    have hlt := drop_lt hd
    obtain ⟨s1, s2⟩ := insF_false x out ha
    have s3 := (insF_len x out false).2
    simp only [ref35_Delegations_Reach_L5, show (((j + 1 : Nat) : Int) < m.length) by omega, decide_true, if_true, idx_n, h2, Option.bind_some, ref06_Insert_eq out x (show out.length ≤ 1000 by omega), w64n (show j + 1 < 9223372036854775807 by omega)]
    refine ih (j + 1) n _ h3 (by simp at hn; omega) (by omega) s1 fun y => ?_
    have hd1 : (m.drop 1).drop j = x :: r := by rw [List.drop_drop, Nat.add_comm, hd]
    rw [s2, hy, take_more hd1]
    simp [or_comm]
theorem rreach_one {l : WL} (h : Inv l) {s : Str} (hs : fits s) (now : Int) (to : Str) (X : List Str) (hX : IsR l s now to X) :
    ∀ (k i n : Nat) (m : List Str), l.length + 1 - i = k → k < n → RS l s now to m → i ≤ m.length → (∀ p ∈ l, ed l s now p = true → p.1.to_ ∈ m.take i → p.1.from_ ∈ m) →
    ref35_Delegations_Reach_L1 n (rf l) s now m (i : Int) = some X := by
  have hl := h.len
  have fin : ∀ (n : Nat) (m : List Str), RS l s now to m → (∀ p ∈ l, ed l s now p = true → p.1.to_ ∈ m → p.1.from_ ∈ m) → ref35_Delegations_Reach_L5 (ref35_Delegations_Reach_L1 n) fuel m ([] : List Str) 1 = some X := by
    intro n m hi hc
    have hm := hi.len
    obtain ⟨r, e⟩ := hi.hd
    have hF : (m.drop 1).length < fuel := by unfold fuel; simp; omega
    have := rreach_five m (by omega) (ref35_Delegations_Reach_L1 n) X hX.asc (fun y => ?_) (m.drop 1) 0 fuel [] rfl hF (by simp) List.Pairwise.nil (by simp)
    · exact this
    · rw [hX.mem, e]
      have hn := hi.nd
      rw [e, List.nodup_cons] at hn
      simp only [List.drop_succ_cons, List.drop_zero]
      constructor
      · rintro ⟨h1, h2⟩
        have : y ∈ m := rch_all (K := m) (by rw [e]; simp) (fun p hp he ht => hc p hp he ht) h1
        rw [e] at this
        rcases List.mem_cons.1 this with h3 | h3
        · exact absurd h3 h2
        · exact h3
      · exact fun h3 => ⟨hi.sound y (by rw [e]; simp [h3]), fun e' => hn.1 (e' ▸ h3)⟩
  intro k
  induction k with
  | zero =>
    intro i n m hk hn hi hle hc
    obtain ⟨n, rfl⟩ : ∃ k, n = k + 1 := ⟨n - 1, by omega⟩
    have hm := hi.len
    have e : i = m.length := by omega
    unfold ref35_Delegations_Reach_L1
    rw [if_neg (by simp; omega)]
    rw [e, List.take_length] at hc
    exact fin n m hi hc
  | succ k ih =>
    intro i n m hk hn hi hle hc
    obtain ⟨n, rfl⟩ : ∃ k, n = k + 1 := ⟨n - 1, by omega⟩
    unfold ref35_Delegations_Reach_L1
    by_cases hlt : i < m.length
    · rw [if_pos (by simp; omega)]
      have := rreach_two h hs now to X i (ref35_Delegations_Reach_L1 n) m[i] (fun m' hi' hle' hc' => ih (i + 1) n m' (by omega) (by omega) hi' hle' hc') l 0 fuel m rfl (by unfold fuel; omega) hi (List.getElem?_eq_getElem hlt) fun p hp he hq => ?_
      · exact this
      · rcases hq with hq | ⟨_, hq⟩
        · exact hc p hp he hq
        · simp at hq
    · rw [if_neg (by simp; omega)]
      have e : i = m.length := by omega
      rw [e, List.take_length] at hc
      exact fin n m hi hc
theorem rreach_eq {l : WL} (h : Inv l) {s : Str} (hs : fits s) (now : Int) (to : Str) {X : List Str} (hX : IsR l s now to X) : ref35_Delegations_Reach (rf l) to s now = some X := by
  have hl := h.len
  unfold ref35_Delegations_Reach
  rw [rmade_eq, Option.bind_some, if_neg (by simp)]
  have hF : l.length + 1 < fuel := by unfold fuel; omega
  refine rreach_one h hs now to X hX (l.length + 1) 0 fuel [to] rfl hF ⟨by simp, ⟨[], rfl⟩, fun x hx => ?_, by simp⟩ (by simp) fun p hp he ht => by simp at ht
  simp at hx; subst hx; exact .base
theorem isR_len {l : WL} {s : Str} {now : Int} {to : Str} {X : List Str} (h : IsR l s now to X) : X.length ≤ l.length := by
  have hn : X.Nodup := h.asc.imp (fun {x y} (h : x < y) (e : x = y) => str_lt_irrefl x (by rw [← e] at h; exact h))
  have := nodup_le (B := l.map (·.1.from_)) hn fun x hx => by
    obtain ⟨h1, h2⟩ := (h.mem x).1 hx
    cases h1 with
    | base => exact absurd rfl h2
    | step p hp _ _ => exact List.mem_map.2 ⟨p, hp, rfl⟩
  simpa using this
/-! ### gates -/
def shortL (l : List Str) : Prop := l.length ≤ 20 ∧ ∀ s ∈ l, s.length ≤ 200
theorem shortL.sm {l : List Str} (h : shortL l) : sm l := ⟨by have := h.1; omega, fun s hs => by have := h.2 s hs; unfold fits; omega⟩
theorem few_gate (l : List Str) (hf : fits l) : law35_few l = some false ∨ (law35_few l = some true ∧ shortL l) := by
  unfold fits at hf
  have key : ∀ (k i n : Nat), 20 - i = k → k < n → i ≤ 20 → i ≤ l.length → (∀ s ∈ l.take i, s.length ≤ 200) → law35_few_L1 n l (i : Int) = some false ∨ (law35_few_L1 n l (i : Int) = some true ∧ shortL l) := by
    intro k
    induction k with
    | zero =>
      intro i n hk hn h20 hi ht
      obtain ⟨n, rfl⟩ : ∃ k, n = k + 1 := ⟨n - 1, by omega⟩
      have e : i = 20 := by omega
      subst e
      unfold law35_few_L1
      rw [if_neg (by simp)]
      by_cases h : l.length ≤ 20
      · rw [List.take_of_length_le h] at ht
        exact .inr ⟨by simp; omega, h, ht⟩
      · exact .inl (by simp; omega)
    | succ k ih =>
      intro i n hk hn h20 hi ht
      obtain ⟨n, rfl⟩ : ∃ k, n = k + 1 := ⟨n - 1, by omega⟩
      unfold law35_few_L1
      by_cases hlt : i < l.length
      · have h2 : l[i]? = some l[i] := List.getElem?_eq_getElem hlt
        rw [if_pos (by simp; omega), idx_n, h2, Option.bind_some]
        by_cases hx : l[i].length ≤ 200
        · rw [if_neg (by simp; omega), w64n (show i < 9223372036854775807 by omega)]
          refine ih (i + 1) n (by omega) (by omega) (by omega) (by omega) fun s hs => ?_
          rw [List.take_add_one, h2] at hs
          rcases List.mem_append.1 hs with hs | hs
          · exact ht s hs
          · simp at hs; subst hs; exact hx
        · rw [if_pos (by simp; omega)]; exact .inl rfl
      · rw [if_neg (by simp; omega)]
        rw [List.take_of_length_le (by omega)] at ht
        by_cases h : l.length ≤ 20
        · exact .inr ⟨by simp; omega, h, ht⟩
        · exact .inl (by simp; omega)
  exact key 20 0 fuel rfl (by unfold fuel; omega) (by omega) (by omega) (by simp)
structure smallO (o : law35_Op) : Prop where
  frm : o.From.length ≤ 200
  to : o.To.length ≤ 200
  sc : shortL o.Scopes
theorem smallO.ff {o : law35_Op} (h : smallO o) : fits o.From := by have := h.frm; unfold fits; omega
theorem smallO.ft {o : law35_Op} (h : smallO o) : fits o.To := by have := h.to; unfold fits; omega
theorem light_gate (l : List law35_Op) (hf : fits l) (ho : ∀ o ∈ l, fits o.Scopes) : law35_light l = some false ∨ (law35_light l = some true ∧ l.length ≤ 24 ∧ ∀ o ∈ l, smallO o) := by
  unfold fits at hf
  have key : ∀ (k i n : Nat), 24 - i = k → k < n → i ≤ 24 → i ≤ l.length → (∀ s ∈ l.take i, smallO s) → law35_light_L1 n l (i : Int) = some false ∨ (law35_light_L1 n l (i : Int) = some true ∧ l.length ≤ 24 ∧ ∀ o ∈ l, smallO o) := by
    intro k
    induction k with
    | zero =>
      intro i n hk hn h20 hi ht
      obtain ⟨n, rfl⟩ : ∃ k, n = k + 1 := ⟨n - 1, by omega⟩
      have e : i = 24 := by omega
      subst e
      unfold law35_light_L1
      rw [if_neg (by simp)]
      by_cases h : l.length ≤ 24
      · rw [List.take_of_length_le h] at ht
        exact .inr ⟨by simp; omega, h, ht⟩
      · exact .inl (by simp; omega)
    | succ k ih =>
      intro i n hk hn h20 hi ht
      obtain ⟨n, rfl⟩ : ∃ k, n = k + 1 := ⟨n - 1, by omega⟩
      unfold law35_light_L1
      by_cases hlt : i < l.length
      · have h2 : l[i]? = some l[i] := List.getElem?_eq_getElem hlt
        have hix : idx l (i : Int) = some l[i] := by rw [idx_n, h2]
        rw [if_pos (by simp; omega)]
        simp only [hix, Option.bind_some, w64n (show i < 9223372036854775807 by omega)]
        by_cases h3 : l[i].From.length > 200
        · rw [if_pos (by simp; omega), Option.bind_some, if_pos rfl, Option.bind_some, if_pos rfl]; exact .inl rfl
        rw [if_neg (by simp; omega), Option.bind_some]
        by_cases h4 : l[i].To.length > 200
        · rw [if_pos (by simp; omega), Option.bind_some, if_pos rfl]; exact .inl rfl
        rw [if_neg (by simp; omega)]
        rcases few_gate l[i].Scopes (ho _ (List.getElem_mem hlt)) with h5 | ⟨h5, h6⟩
        · rw [h5, Option.bind_some, Option.bind_some, if_pos (show (!false) = true from rfl)]; exact .inl rfl
        · rw [h5, Option.bind_some, Option.bind_some, if_neg (by simp)]
          refine ih (i + 1) n (by omega) (by omega) (by omega) (by omega) fun s hs => ?_
          rw [List.take_add_one, h2] at hs
          rcases List.mem_append.1 hs with hs | hs
          · exact ht s hs
          · simp at hs; subst hs; exact ⟨by omega, by omega, h6⟩
      · rw [if_neg (by simp; omega)]
        rw [List.take_of_length_le (by omega)] at ht
        by_cases h : l.length ≤ 24
        · exact .inr ⟨by simp; omega, h, ht⟩
        · exact .inl (by simp; omega)
  exact key 24 0 fuel rfl (by unfold fuel; omega) (by omega) (by omega) (by simp)
/-! ### one call -/
def doI (l : WL) (o : law35_Op) : Int :=
  if o.Call = 0 then alE l o.From o.To o.Scopes o.Window else if o.Call = 1 then (if (mfind (⟨o.From, o.To⟩ : delegate_way) l).isSome then 1 else 0)
  else if o.Call = 2 then (l.length : Int) - ((others o.From l).length : Int) else mayR l o.From o.To o.Scopes o.Now
def doL (l : WL) (o : law35_Op) : WL :=
  if o.Call = 0 then alL l o.From o.To o.Scopes o.Window else if o.Call = 1 then mdelL ⟨o.From, o.To⟩ l else if o.Call = 2 then others o.From l else l
theorem inv_do {l : WL} (h : Inv l) (o : law35_Op) : Inv (doL l o) := by
  unfold doL
  split
  · exact inv_al h _ _ _ _
  · split
    · exact inv_del h _
    · split
      · exact inv_others h _
      · exact h
theorem yes_eq (b : Bool) : law35_yes b = some (if b then 1 else 0) := by cases b <;> rfl
theorem do_eq {l : WL} (h : Inv l) {o : law35_Op} (ho : smallO o) : law35_do ⟨some l⟩ o = some (doI l o, ⟨some (doL l o)⟩) := by
  unfold law35_do doI doL
  by_cases k0 : o.Call = 0
  · rw [if_pos (by simpa using k0), if_pos k0, if_pos k0, allow_eq h _ _ _ ho.ff ho.ft ho.sc.sm, Option.bind_some]
  rw [if_neg (by simpa using k0), if_neg k0, if_neg k0]
  by_cases k1 : o.Call = 1
  · rw [if_pos (by simpa using k1), if_pos k1, if_pos k1, revoke_eq, Option.bind_some, yes_eq, Option.bind_some]
  rw [if_neg (by simpa using k1), if_neg k1, if_neg k1]
  by_cases k2 : o.Call = 2
  · rw [if_pos (by simpa using k2), if_pos k2, if_pos k2, drop_eq h, Option.bind_some]
  rw [if_neg (by simpa using k2), if_neg k2, if_neg k2, may_eq h _ _ ho.sc.sm, Option.bind_some]
theorem done_eq {l : WL} (h : Inv l) {o : law35_Op} (ho : smallO o) : law35_done (rf l) o = some (doI l o, rf (doL l o)) := by
  unfold law35_done doI doL
  by_cases k0 : o.Call = 0
  · rw [if_pos (by simpa using k0), if_pos k0, if_pos k0, rallow_eq h _ _ _ ho.ff ho.ft ho.sc.sm, Option.bind_some]
  rw [if_neg (by simpa using k0), if_neg k0, if_neg k0]
  by_cases k1 : o.Call = 1
  · rw [if_pos (by simpa using k1), if_pos k1, if_pos k1, rrevoke_eq h, Option.bind_some, yes_eq, Option.bind_some]
  rw [if_neg (by simpa using k1), if_neg k1, if_neg k1]
  by_cases k2 : o.Call = 2
  · rw [if_pos (by simpa using k2), if_pos k2, if_pos k2, rdrop_eq h, Option.bind_some]
  rw [if_neg (by simpa using k2), if_neg k2, if_neg k2, rmay_eq h _ _ ho.sc.sm, Option.bind_some]
theorem same_self (l : List Str) (h : l.length ≤ 1000) : ref03_Same l l = some true := by rw [ref03_Same_eq l l (by unfold fits; omega)]; simp
theorem scR_len {l : WL} (h : Inv l) (f t : Str) (now : Int) : (scR l f t now).length ≤ 1000 := by
  unfold scR
  split
  · simp
  · rcases opt_cases (mfind (⟨f, t⟩ : delegate_way) l) with hf | ⟨d, hf⟩
    · rw [hf]; exact (sorted_sm sm_nil).1
    · rw [hf]; exact (sorted_sm (h.at hf).sm).1
theorem plays_loop (ops : List law35_Op) (hf : ops.length ≤ 24) (ho : ∀ o ∈ ops, smallO o) {us sc : List Str} (hu : shortL us) (hsc : shortL sc) {one : Str} (h1 : fits one) (now : Int) :
    ∀ (r : List law35_Op) (i n : Nat) (l : WL), ops.drop i = r → r.length < n → Inv l → law35_DelegatePlays_L1 n ops us sc one now ⟨some l⟩ (rf l) (i : Int) = some true := by
  intro r
  induction r with
  | nil =>
    intro i n l hd hn hi
    obtain ⟨n, rfl⟩ : ∃ k, n = k + 1 := ⟨n - 1, by simp at hn; omega⟩
    have := drop_nil hd
    simp only [law35_DelegatePlays_L1, show ¬ ((i : Int) < ops.length) by omega, decide_false, Bool.false_eq_true, if_false, awake35, Option.bind_some]
  | cons o r ih =>
    intro i n l hd hn hi
    obtain ⟨n, rfl⟩ : ∃ k, n = k + 1 := ⟨n - 1, by simp at hn; omega⟩
    obtain ⟨g1, g2, g3⟩ := drop_more hd
    have hlt := drop_lt hd
    have hoo := ho o (List.mem_of_getElem? g2)
    have hi2 := inv_do hi o
    have hfu : fits us := by have := hu.1; unfold fits; omega
    obtain ⟨X, hX⟩ := isR_exists (doL l o) one now o.To
    have hXl := isR_len hX
    have hl2 := hi2.len
    have hix : idx ops (i : Int) = some o := by rw [idx_n, g2]
    unfold law35_DelegatePlays_L1
    rw [if_pos (by simp; omega)]
    simp only [hix, Option.bind_some, do_eq hi hoo, done_eq hi hoo]
    rw [if_neg (by simp), scopes_eq hi2, rscopes_eq hi2, Option.bind_some, Option.bind_some, same_self _ (scR_len hi2 _ _ _), Option.bind_some, if_neg (by simp), chain_eq hi2 us hsc.sm hfu, rchain_eq hi2 us hsc.sm, Option.bind_some, Option.bind_some, if_neg (by simp),
      reach_eq hi2 h1 now o.To hX, rreach_eq hi2 h1 now o.To hX, Option.bind_some, Option.bind_some, same_self X (by omega), Option.bind_some]
    unfold law35_DelegatePlays_B2
    rw [if_neg (by simp), w64n (show i < 9223372036854775807 by omega)]
    exact ih (i + 1) n (doL l o) g3 (by simp at hn; omega) hi2
theorem plays_true (ops : List law35_Op) (us sc : List Str) (one : Str) (now : Int) (hf : fits ops) (ho : ∀ o ∈ ops, fits o.Scopes) (hu : fits us) (hs : fits sc) : law35_DelegatePlays ops us sc one now = some true := by
  unfold law35_DelegatePlays
  rcases light_gate ops hf ho with h | ⟨h, hm, hoo⟩
  · simp only [h, Option.bind_some, Bool.not_false, if_true, Bool.true_or, awake35]
  rw [h, Option.bind_some, if_neg (by simp)]
  rcases few_gate us hu with h1 | ⟨h1, hu'⟩
  · simp only [h1, Option.bind_some, Bool.not_false, if_true, Bool.true_or, awake35]
  rw [h1, Option.bind_some, Option.bind_some, if_neg (by simp)]
  rcases few_gate sc hs with h2 | ⟨h2, hs'⟩
  · simp only [h2, Option.bind_some, Bool.not_false, if_true, Bool.true_or, awake35]
  rw [h2, Option.bind_some, Option.bind_some]
  by_cases h3 : one.length > 200
  · rw [if_pos (by simp; omega), awake35, Option.bind_some]
  rw [if_neg (by simp; omega)]
  show (some (delegate_Delegations.mk (some []))).bind _ = _
  rw [Option.bind_some]
  show (some (ref35_Delegations.mk true [])).bind _ = _
  rw [Option.bind_some]
  exact plays_loop ops hm hoo hu' hs' (by unfold fits; omega) now ops 0 fuel [] rfl (by unfold fuel; omega) inv_new
end Go.KW.S
