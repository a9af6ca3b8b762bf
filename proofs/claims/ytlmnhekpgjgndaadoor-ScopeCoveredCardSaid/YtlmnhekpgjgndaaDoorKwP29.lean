/- Own work: a part of the proofs of this seat. -/
import Derived.Test.YtlmnhekpgjgndaaDoorKwPlain
import Derived.Test.YtlmnhekpgjgndaaDoorKwCS
import Derived.Lib.IndexMore
import Derived.Lib.CountLaws
import Derived.KernelRfl
set_option linter.unusedVariables false
set_option linter.unusedSimpArgs false
namespace Go.KW.S
open Go Go.KW
/-! ### words -/
def isW (c : Int) : Bool := (((decide (c ≥ 65) && decide (c ≤ 90)) || (decide (c ≥ 97) && decide (c ≤ 122))) || (decide (c ≥ 48) && decide (c ≤ 57))) || c == 45 || c == 95 || c == 46 || c == 58
def word (s : Str) : Bool := s.all (fun u => isW u.toNat) && (decide (1 ≤ s.length) && decide (s.length ≤ 64))

theorem fold_Word_1_eq (c : Int) : fold_Word_1 c = some (isW c) := by
  simp only [fold_Word_1, fold_letter, fold_upper, fold_digit, isW, Option.bind_some]
  cases (decide (c ≥ 65) && decide (c ≤ 90)) <;> cases (decide (c ≥ 97) && decide (c ≤ 122)) <;> simp
theorem fold_made_eq (s : Str) (hs : fits s) : fold_made__Word_1 s = some (word s) := by
  have key : ∀ (r : Str) (i n : Nat), s.drop i = r → i ≤ s.length → r.length < n →
      fold_made__Word_1_L1 n s (s.length : Int) (i : Int) = some (r.all (fun u => isW u.toNat) && (decide (1 ≤ s.length) && decide (s.length ≤ 64))) := by
    intro r
    induction r with
    | nil =>
      intro i n hd hi hn
      obtain ⟨n, rfl⟩ : ∃ k, n = k + 1 := ⟨n - 1, by simp at hn; omega⟩
      have := drop_nil hd
      simp only [fold_made__Word_1_L1, show ¬ ((i : Int) < s.length) by omega, decide_false, Bool.false_eq_true, if_false, List.all_nil, Bool.true_and, Option.some.injEq]
      rw [Bool.eq_iff_iff]; cases s <;> simp <;> omega
    | cons u r ih =>
      intro i n hd hi hn
      obtain ⟨n, rfl⟩ : ∃ k, n = k + 1 := ⟨n - 1, by simp at hn; omega⟩
      obtain ⟨h1, h2, h3⟩ := drop_more hd
      have hlt := drop_lt hd
      have := hs; unfold fits at this
      simp only [fold_made__Word_1_L1, show ((i : Int) < s.length) by omega, decide_true, if_true, inb_n, h1, chk_true, byteAt_some h2, fold_Word_1_eq, Option.bind_some, w64n (show i < 9223372036854775807 by omega), List.all_cons]
      cases isW u.toNat with
      | false => simp
      | true => simpa using ih (i + 1) n h3 (by omega) (by simp at hn; omega)
  exact key s 0 fuel rfl (by omega) (fuel_pos hs)
theorem fold_Word_eq (s : Str) (hs : fits s) : fold_Word s = some (word s) := by
  simp [fold_Word, fold_made_eq s hs]

theorem ref01_Word_eq (s : Str) (hs : fits s) : ref01_Word s = some (word s) := by
  have key : ∀ (r : Str) (i n : Nat), s.drop i = r → i ≤ s.length → r.length < n →
      ref01_Word_L1 n s (i : Int) = some (r.all (fun u => isW u.toNat) && (decide (1 ≤ s.length) && decide (s.length ≤ 64))) := by
    intro r
    induction r with
    | nil =>
      intro i n hd hi hn
      obtain ⟨n, rfl⟩ : ∃ k, n = k + 1 := ⟨n - 1, by simp at hn; omega⟩
      have := drop_nil hd
      simp only [ref01_Word_L1, show ¬ ((i : Int) < s.length) by omega, decide_false, Bool.false_eq_true, if_false, List.all_nil, Bool.true_and, Option.some.injEq]
      rw [Bool.eq_iff_iff]; simp; omega
    | cons u r ih =>
      intro i n hd hi hn
      obtain ⟨n, rfl⟩ : ∃ k, n = k + 1 := ⟨n - 1, by simp at hn; omega⟩
      obtain ⟨h1, h2, h3⟩ := drop_more hd
      have hlt := drop_lt hd
      have := hs; unfold fits at this
      have ih' := ih (i + 1) n h3 (by omega) (by simp at hn; omega)
      have e : isW u.toNat = ((((((decide ((u.toNat : Int) ≥ 65) && decide ((u.toNat : Int) ≤ 90)) || (decide ((u.toNat : Int) ≥ 97) && decide ((u.toNat : Int) ≤ 122))) || (decide ((u.toNat : Int) ≥ 48) && decide ((u.toNat : Int) ≤ 57))) || (u.toNat : Int) == 45) || (u.toNat : Int) == 95) || (u.toNat : Int) == 46 || (u.toNat : Int) == 58) := by
        simp [isW, Bool.or_assoc]
      simp only [ref01_Word_L1, show ((i : Int) < s.length) by omega, decide_true, if_true, inb_n, h1, chk_true, byteAt_some h2, ref01_letter, ref01_digit, Option.bind_some, w64n (show i < 9223372036854775807 by omega), List.all_cons, ih', e, bne]
      generalize (r.all fun u => isW u.toNat) = q
      generalize (decide ((u.toNat : Int) ≥ 97) && decide ((u.toNat : Int) ≤ 122)) = a
      generalize (decide ((u.toNat : Int) ≥ 65) && decide ((u.toNat : Int) ≤ 90)) = b
      generalize (decide ((u.toNat : Int) ≥ 48) && decide ((u.toNat : Int) ≤ 57)) = c
      generalize ((u.toNat : Int) == 45) = d
      generalize ((u.toNat : Int) == 95) = e1
      generalize ((u.toNat : Int) == 46) = f
      generalize ((u.toNat : Int) == 58) = g
      cases a <;> cases b <;> cases c <;> cases d <;> cases e1 <;> cases f <;> cases g <;> simp
  exact key s 0 fuel rfl (by omega) (fuel_pos hs)
/-! ### scopes -/
theorem awake29 : law29_awake = some true := by kernel_rfl
theorem few_ok (l : List Str) (hl : fits l) : ∃ b, law29_few l = some b ∧ (b = true → l.length ≤ 20 ∧ ∀ s ∈ l, s.length ≤ 200) := by
  unfold fits at hl
  have key : ∀ (r : List Str) (i n : Nat), l.drop i = r → i ≤ l.length → r.length < n → (∀ s ∈ l.take i, s.length ≤ 200) →
      ∃ b, law29_few_L1 n l (i : Int) = some b ∧ (b = true → l.length ≤ 20 ∧ ∀ s ∈ l, s.length ≤ 200) := by
    intro r
    induction r with
    | nil =>
      intro i n hd hi hn hp
      obtain ⟨n, rfl⟩ : ∃ k, n = k + 1 := ⟨n - 1, by simp at hn; omega⟩
      have hle := drop_nil hd
      refine ⟨decide ((l.length : Int) ≤ 20), by simp [law29_few_L1, show ¬ ((i : Int) < l.length) by omega], fun h => ⟨by have := of_decide_eq_true h; omega, ?_⟩⟩
      rw [List.take_of_length_le hle] at hp; exact hp
    | cons x r ih =>
      intro i n hd hi hn hp
      obtain ⟨n, rfl⟩ : ∃ k, n = k + 1 := ⟨n - 1, by simp at hn; omega⟩
      obtain ⟨h1, h2, h3⟩ := drop_more hd
      have hlt := drop_lt hd
      by_cases h20 : (i : Int) < 20
      · by_cases hlen : (x.length : Int) > 200
        · exact ⟨false, by simp [law29_few_L1, show ((i : Int) < l.length) by omega, h20, idx_n, h2, hlen], by simp⟩
        · obtain ⟨b, hb, hb2⟩ := ih (i + 1) n h3 (by omega) (by simp at hn; omega) (fun s hs => by
            rw [take_more hd, List.mem_append, List.mem_singleton] at hs
            rcases hs with hs | hs
            · exact hp s hs
            · subst hs; omega)
          refine ⟨b, ?_, hb2⟩
          simp only [law29_few_L1, show ((i : Int) < l.length) by omega, h20, decide_true, Bool.and_self, if_true, idx_n, h2, Option.bind_some, hlen, decide_false, Bool.false_eq_true, if_false]
          rw [w64n (by omega)]
          exact hb
      · refine ⟨decide ((l.length : Int) ≤ 20), ?_, fun h => absurd (of_decide_eq_true h) (by omega)⟩
        simp [law29_few_L1, h20]
  have := key l 0 fuel rfl (by omega) (fuel_pos hl) (by simp)
  simpa [law29_few] using this

/-- two dots in a row -/
def dots : Str → Bool
  | a :: b :: r => (a == 46 && b == 46) || dots (b :: r)
  | _ => false
def valid (s : Str) : Bool := word s && !(s.head? == some 46) && !(s.getLast? == some 46) && !dots s

theorem contains_dots (s : Str) : Lib.contains s [46, 46] = dots s := by
  have key : ∀ s : Str, (decide (0 ≤ Lib.index s [46, 46]) = dots s) ∧ -1 ≤ Lib.index s [46, 46] := by
    intro s
    induction s with
    | nil => exact ⟨rfl, by decide⟩
    | cons a r ih =>
      obtain ⟨ih1, ih2⟩ := ih
      have hi : Lib.index (a :: r) [46, 46] = if ([46, 46] : Str).isPrefixOf (a :: r) then 0 else if Lib.index r [46, 46] == -1 then -1 else Lib.index r [46, 46] + 1 := by
        simp only [Lib.index]
      have hp : ([46, 46] : Str).isPrefixOf (a :: r) = (a == 46 && r.head? == some 46) := by
        cases r with
        | nil => simp [List.isPrefixOf]
        | cons b r => simp [List.isPrefixOf, Bool.beq_comm]
      have hd : dots (a :: r) = ((a == 46 && r.head? == some 46) || dots r) := by
        cases r with
        | nil => simp [dots]
        | cons b r => simp [dots]
      rw [hi, hp, hd, ← ih1]
      cases (a == 46 && r.head? == some 46) with
      | true => simp
      | false =>
        simp only [Bool.false_eq_true, if_false, Bool.false_or]
        by_cases h : Lib.index r [46, 46] = -1
        · rw [h]; simp
        · have h' : (Lib.index r [46, 46] == -1) = false := by simpa using h
          rw [h']
          simp only [Bool.false_eq_true, if_false]
          refine ⟨?_, by omega⟩
          rw [Bool.eq_iff_iff]; simp; omega
  exact (key s).1
theorem u8_eq (u : UInt8) (k : Nat) (hk : k < 256) : ((u.toNat : Int) == (k : Int)) = (u == UInt8.ofNat k) := by
  rw [Bool.eq_iff_iff, beq_iff_eq, beq_iff_eq]
  constructor
  · intro h
    have : u.toNat = k := by omega
    exact UInt8.toNat_inj.1 (by rw [this, UInt8.toNat_ofNat_of_lt' (by simpa using hk)])
  · rintro rfl
    rw [UInt8.toNat_ofNat_of_lt' (by simpa using hk)]
theorem u8_46 (u : UInt8) : ((u.toNat : Int) == 46) = (u == 46) := u8_eq u 46 (by decide)
theorem u8_32 (u : UInt8) : ((u.toNat : Int) == 32) = (u == 32) := u8_eq u 32 (by decide)
theorem byteAt_first {s : Str} (h : 1 ≤ s.length) : (byteAt s 0 == 46) = (s.head? == some 46) := by
  cases s with
  | nil => simp at h
  | cons a r =>
    have : byteAt (a :: r) 0 = (a.toNat : Int) := by simp [byteAt]
    rw [this, u8_46]; simp
theorem byteAt_end {s : Str} (h : 1 ≤ s.length) : (byteAt s (((s.length - 1 : Nat) : Int)) == 46) = (s.getLast? == some 46) := by
  have h1 : s[s.length - 1]? = some s[s.length - 1] := List.getElem?_eq_getElem (by omega)
  rw [byteAt_some h1, u8_46, List.getLast?_eq_getElem?, h1]; simp
theorem word_len {s : Str} (h : word s = true) : 1 ≤ s.length ∧ s.length ≤ 64 := by
  simp only [word, Bool.and_eq_true, decide_eq_true_eq] at h; exact h.2
theorem word_fits {s : Str} (h : word s = true) : fits s := by have := word_len h; unfold fits; omega
theorem last_ix {s : Str} (h : 1 ≤ s.length ∧ s.length ≤ 64) : IntKind.i64.wrap ((s.length : Int) - 1) = ((s.length - 1 : Nat) : Int) := by
  rw [w64 (by omega) (by omega)]; omega
theorem inb_0 {n : Nat} (h : 1 ≤ n) : inb 0 n = true := by simp [inb] <;> omega

theorem scope_valid_eq (s : Str) (hs : fits s) : scope_valid s = some (valid s) := by
  unfold scope_valid valid
  rw [fold_Word_eq s hs, Option.bind_some]
  cases hw : word s with
  | false => simp
  | true =>
    have hl := word_len hw
    simp only [if_true, inb_0 hl.1, chk_true, Option.bind_some, bne, byteAt_first hl.1, last_ix hl, Bool.true_and]
    cases s.head? == some 46 with
    | true => simp
    | false =>
      have h2 : inb ((s.length - 1 : Nat) : Int) s.length = true := by rw [inb_n]; simp; omega
      simp only [Bool.not_false, if_true, h2, chk_true, byteAt_end hl.1, Option.bind_some, Bool.true_and]
      cases s.getLast? == some 46 with
      | true => simp
      | false =>
        have h3 : decide (s.length < 4294967281) = true := by simp; omega
        simp only [Bool.not_false, if_true, lib_Contains, h3, chk_true, Option.bind_some, contains_dots, Bool.true_and]

theorem ref29_Valid_L1_eq (s : Str) (hs : s.length ≤ 64) : ∀ (r : Str) (i n : Nat) (p : UInt8), s.drop i = p :: r → r.length < n →
    ref29_Valid_L1 n s ((i + 1 : Nat) : Int) = some (!dots (p :: r)) := by
  intro r
  induction r with
  | nil =>
    intro i n p hd hn
    obtain ⟨n, rfl⟩ : ∃ k, n = k + 1 := ⟨n - 1, by simp at hn; omega⟩
    have := drop_nil (drop_more hd).2.2
    simp [ref29_Valid_L1, show ¬ ((i : Int) + 1 < s.length) by omega, dots]
  | cons u r ih =>
    intro i n p hd hn
    obtain ⟨n, rfl⟩ : ∃ k, n = k + 1 := ⟨n - 1, by simp at hn; omega⟩
    obtain ⟨g1, g2, g3⟩ := drop_more hd
    obtain ⟨h1, h2, h3⟩ := drop_more g3
    have hlt := drop_lt g3
    have ih' := ih (i + 1) n u g3 (by simp at hn; omega)
    have e : IntKind.i64.wrap (((i + 1 : Nat) : Int) - 1) = (i : Int) := by rw [w64 (by omega) (by omega)]; omega
    simp only [ref29_Valid_L1, show (((i + 1 : Nat) : Int) < s.length) by omega, decide_true, if_true, inb_n, h1, g1, chk_true, byteAt_some h2, e, byteAt_some g2, w64n (show i + 1 < 9223372036854775807 by omega), ih', u8_46, Option.bind_some]
    have hd : dots (p :: u :: r) = ((p == 46 && u == 46) || dots (u :: r)) := rfl
    rw [hd]
    generalize dots (u :: r) = q
    cases u == 46 <;> cases p == 46 <;> simp
theorem ref29_Valid_eq (s : Str) (hs : fits s) : ref29_Valid s = some (valid s) := by
  unfold ref29_Valid valid
  rw [ref01_Word_eq s hs, Option.bind_some]
  cases hw : word s with
  | false => simp
  | true =>
    have hl := word_len hw
    have h2 : inb ((s.length - 1 : Nat) : Int) s.length = true := by rw [inb_n]; simp; omega
    simp only [Bool.not_true, Bool.false_eq_true, if_false, inb_0 hl.1, chk_true, Option.bind_some, byteAt_first hl.1, last_ix hl, Bool.true_and, h2, byteAt_end hl.1]
    cases s.head? == some 46 with
    | true => simp
    | false =>
      simp only [Bool.false_eq_true, if_false, Option.bind_some]
      cases s.getLast? == some 46 with
      | true => simp
      | false =>
        obtain ⟨p, r, rfl⟩ : ∃ p r, s = p :: r := by
          cases s with
          | nil => simp at hl
          | cons p r => exact ⟨p, r, rfl⟩
        have := ref29_Valid_L1_eq (p :: r) hl.2 r 0 fuel p rfl (by simp at hl; unfold fuel; omega)
        simpa using this
/-- where a string is first found -/
def ixOf (v : Str) : Nat → List Str → Int
  | _, [] => -1
  | i, x :: r => if v == x then i else ixOf v (i + 1) r
theorem slices_Index_eq (l : List Str) (v : Str) (hl : fits l) : slices_Index_string_string l v = some (ixOf v 0 l) := by
  have key : ∀ (r : List Str) (i n : Nat), l.drop i = r → i ≤ l.length → r.length < n →
      slices_Index_string_string_L1 n l v (l.length : Int) (i : Int) = some (ixOf v i r) := by
    intro r
    induction r with
    | nil =>
      intro i n hd hi hn
      obtain ⟨n, rfl⟩ : ∃ k, n = k + 1 := ⟨n - 1, by simp at hn; omega⟩
      have := drop_nil hd
      simp [slices_Index_string_string_L1, show ¬ ((i : Int) < l.length) by omega, ixOf]
    | cons x r ih =>
      intro i n hd hi hn
      obtain ⟨n, rfl⟩ : ∃ k, n = k + 1 := ⟨n - 1, by simp at hn; omega⟩
      obtain ⟨h1, h2, h3⟩ := drop_more hd
      have hlt := drop_lt hd
      have := hl; unfold fits at this
      simp only [slices_Index_string_string_L1, show ((i : Int) < l.length) by omega, decide_true, if_true, idx_n, h2, Option.bind_some, w64n (show i < 9223372036854775807 by omega), ih (i + 1) n h3 (by omega) (by simp at hn; omega), ixOf]
      cases v == x <;> simp
  exact key l 0 fuel rfl (by omega) (fuel_pos hl)
theorem ixOf_pos (v : Str) : ∀ (r : List Str) (i : Nat), decide (ixOf v i r ≥ 0) = r.contains v
  | [], _ => by simp [ixOf]
  | x :: r, i => by
    unfold ixOf
    rw [List.contains_cons]
    cases h : v == x with
    | true => simp
    | false => simpa using ixOf_pos v r (i + 1)
theorem slices_Contains_eq (l : List Str) (v : Str) (hl : fits l) : slices_Contains_string_string l v = some (l.contains v) := by
  simp only [slices_Contains_string_string, slices_Index_eq l v hl, Option.bind_some, ixOf_pos]

/-- the first error of a list of scopes, p being those before -/
def ckL : List Str → List Str → Int
  | _, [] => 0
  | p, x :: r => if !valid x then 5 else if p.contains x then 7 else ckL (p ++ [x]) r
def ck (l : List Str) : Int := if decide ((l.length : Int) > 16) then 3 else ckL [] l
/-- each string can be held -/
def fitsAll (l : List Str) : Prop := ∀ s ∈ l, fits s
theorem fitsAll_at {l : List Str} (h : fitsAll l) {i : Nat} {x : Str} (hx : l[i]? = some x) : fits x := h x (List.mem_of_getElem? hx)
theorem take_len {T : Type} {l : List T} {i : Nat} (h : i < l.length) : (l.take i).length = i := by simp; omega
theorem scope_Check_eq (l : List Str) (hl : fitsAll l) : scope_Check l = some (ck l) := by
  unfold scope_Check ck
  by_cases h16 : (l.length : Int) > 16
  · simp [h16]
  · simp only [h16, decide_false, Bool.false_eq_true, if_false]
    have key : ∀ (r : List Str) (i n : Nat), l.drop i = r → i ≤ l.length → r.length < n → scope_Check_L1 n l l (l.length : Int) (i : Int) = some (ckL (l.take i) r) := by
      intro r
      induction r with
      | nil =>
        intro i n hd hi hn
        obtain ⟨n, rfl⟩ : ∃ k, n = k + 1 := ⟨n - 1, by simp at hn; omega⟩
        have := drop_nil hd
        simp [scope_Check_L1, show ¬ ((i : Int) < l.length) by omega, ckL]
      | cons x r ih =>
        intro i n hd hi hn
        obtain ⟨n, rfl⟩ : ∃ k, n = k + 1 := ⟨n - 1, by simp at hn; omega⟩
        obtain ⟨h1, h2, h3⟩ := drop_more hd
        have hlt := drop_lt hd
        have hi' : inc 0 (i : Int) l.length = true := by rw [inc_0]; simp; omega
        have hft : fits (l.take i) := by unfold fits; rw [take_len hlt]; omega
        simp only [scope_Check_L1, show ((i : Int) < l.length) by omega, decide_true, if_true, idx_n, h2, Option.bind_some, scope_valid_eq x (fitsAll_at hl h2), hi', chk_true, cut_0, slices_Contains_eq _ _ hft, w64n (show i < 9223372036854775807 by omega), ih (i + 1) n h3 (by omega) (by simp at hn; omega), ckL, take_more hd]
        cases valid x <;> cases (l.take i).contains x <;> simp
    exact key l 0 fuel rfl (by omega) (by unfold fuel; omega)
theorem ref29_Check_eq (l : List Str) (hl : fitsAll l) : ref29_Check l = some (ck l) := by
  unfold ref29_Check ck
  by_cases h16 : (l.length : Int) > 16
  · simp [h16]
  · simp only [h16, decide_false, Bool.false_eq_true, if_false]
    have inner : ∀ (r0 : List Str → Int → Option Int) (i : Nat) (x : Str), l[i]? = some x → ∀ (q : List Str) (k n : Nat), (l.take i).drop k = q → k ≤ i → q.length < n →
        ref29_Check_L2 r0 n l (i : Int) (k : Int) = if q.contains x then some 7 else r0 l ((i + 1 : Nat) : Int) := by
      intro r0 i x hx q
      have hlt : i < l.length := (List.getElem?_eq_some_iff.1 hx).1
      have htl := take_len hlt
      induction q with
      | nil =>
        intro k n hd hk hn
        obtain ⟨n, rfl⟩ : ∃ k, n = k + 1 := ⟨n - 1, by simp at hn; omega⟩
        have := drop_nil hd
        simp only [ref29_Check_L2, show ¬ ((k : Int) < i) by omega, decide_false, Bool.false_eq_true, if_false, w64n (show i < 9223372036854775807 by omega)]
        simp
      | cons y q ih =>
        intro k n hd hk hn
        obtain ⟨n, rfl⟩ : ∃ k, n = k + 1 := ⟨n - 1, by simp at hn; omega⟩
        obtain ⟨h1, h2, h3⟩ := drop_more hd
        have hkl := drop_lt hd
        have h2' : l[k]? = some y := by rw [List.getElem?_take_of_lt (by omega)] at h2; exact h2
        simp only [ref29_Check_L2, show ((k : Int) < i) by omega, decide_true, if_true, idx_n, h2', hx, Option.bind_some, w64n (show k < 9223372036854775807 by omega), ih (k + 1) n h3 (by omega) (by simp at hn; omega), List.contains_cons]
        rw [Bool.beq_comm (a := x) (b := y)]
        cases h : y == x <;> simp [h]
    have key : ∀ (r : List Str) (i n : Nat), l.drop i = r → i ≤ l.length → r.length < n → ref29_Check_L1 n l (i : Int) = some (ckL (l.take i) r) := by
      intro r
      induction r with
      | nil =>
        intro i n hd hi hn
        obtain ⟨n, rfl⟩ : ∃ k, n = k + 1 := ⟨n - 1, by simp at hn; omega⟩
        have := drop_nil hd
        simp [ref29_Check_L1, show ¬ ((i : Int) < l.length) by omega, ckL]
      | cons x r ih =>
        intro i n hd hi hn
        obtain ⟨n, rfl⟩ : ∃ k, n = k + 1 := ⟨n - 1, by simp at hn; omega⟩
        obtain ⟨h1, h2, h3⟩ := drop_more hd
        have hlt := drop_lt hd
        have hin := inner (ref29_Check_L1 n) i x h2 (l.take i) 0 fuel rfl (by omega) (by rw [take_len hlt]; unfold fuel; omega)
        simp only [ref29_Check_L1, show ((i : Int) < l.length) by omega, decide_true, if_true, idx_n, h2, Option.bind_some, ref29_Valid_eq x (fitsAll_at hl h2), ckL]
        have hin' : ref29_Check_L2 (ref29_Check_L1 n) fuel l (i : Int) 0 = if (l.take i).contains x then some 7 else ref29_Check_L1 n l ((i + 1 : Nat) : Int) := hin
        rw [hin', ih (i + 1) n h3 (by omega) (by simp at hn; omega), take_more hd]
        cases valid x <;> cases (l.take i).contains x <;> simp
    exact key l 0 fuel rfl (by omega) (by unfold fuel; omega)
/-! ### text and parts -/
def spl (cur : Str) : Str → List Str
  | [] => [cur]
  | u :: r => if u == 32 then cur :: spl [] r else spl (cur ++ [u]) r
theorem index1 (u : UInt8) (r : Str) : Lib.index (u :: r) [32] = if u == 32 then 0 else if Lib.index r [32] == -1 then -1 else Lib.index r [32] + 1 := by
  have : ([32] : Str).isPrefixOf (u :: r) = (u == 32) := by simp [List.isPrefixOf, Bool.beq_comm]
  simp only [Lib.index, this]
theorem index_ge (s : Str) : -1 ≤ Lib.index s [32] ∧ Lib.index s [32] ≤ s.length := by
  induction s with
  | nil => exact ⟨by decide, by decide⟩
  | cons u r ih =>
    rw [index1]
    split
    · simp; omega
    · split
      · simp; omega
      · simp; omega
theorem spl_index (s : Str) : ∀ cur : Str, spl cur s = if Lib.index s [32] == -1 then [cur ++ s] else (cur ++ s.take (Lib.index s [32]).toNat) :: spl [] (s.drop ((Lib.index s [32]).toNat + 1)) := by
  induction s with
  | nil => intro cur; simp [spl, Lib.index]
  | cons u r ih =>
    intro cur
    have hg := index_ge r
    rw [index1, show spl cur (u :: r) = if u == 32 then cur :: spl [] r else spl (cur ++ [u]) r from rfl]
    cases hu : u == 32 with
    | true => simp
    | false =>
      simp only [Bool.false_eq_true, if_false]
      rw [ih]
      by_cases h : Lib.index r [32] = -1
      · simp [h]
      · have h1 : (Lib.index r [32] == -1) = false := by simpa using h
        have h2 : (Lib.index r [32] + 1 == -1) = false := by simp; omega
        have h3 : (Lib.index r [32] + 1).toNat = (Lib.index r [32]).toNat + 1 := by omega
        simp [h1, h2, h3]
theorem split_spl (s : Str) : Lib.split s [32] = spl [] s := by
  have key : ∀ (n : Nat) (s : Str), s.length < n → Lib.splitK [32] 0 (Lib.countFrom [32] n s) s = spl [] s := by
    intro n
    induction n with
    | zero => intro s h; omega
    | succ n ih =>
      intro s h
      have hg := index_ge s
      rw [spl_index]
      unfold Lib.countFrom
      by_cases hi : (Lib.index s [32] == -1) = true
      · rw [if_pos hi, if_pos hi]; simp [Lib.splitK]
      · rw [if_neg hi, if_neg hi, Nat.add_comm]
        have hs : 1 ≤ s.length := by
          cases s with
          | nil => exact absurd (by decide) hi
          | cons _ _ => simp
        simp only [Lib.splitK, hi, Bool.false_eq_true, if_false, Nat.add_zero, List.nil_append, List.length_singleton]
        rw [ih _ (by simp; omega)]
  exact key _ s (Nat.lt_succ_self _)

theorem ckL_ok {l : List Str} : ∀ p : List Str, ckL p l = 0 → ∀ s ∈ l, valid s = true := by
  induction l with
  | nil => intro p _ s hs; cases hs
  | cons x r ih =>
    intro p h s hs
    unfold ckL at h
    cases hv : valid x with
    | false => simp [hv] at h
    | true =>
      simp only [hv, Bool.not_true, Bool.false_eq_true, if_false] at h
      split at h
      · cases h
      · rcases List.mem_cons.1 hs with rfl | hs
        · exact hv
        · exact ih _ h s hs
theorem valid_word {s : Str} (h : valid s = true) : word s = true := by simp only [valid, Bool.and_eq_true] at h; exact h.1.1.1
theorem ck_ok {l : List Str} (h : ck l = 0) : l.length ≤ 16 ∧ ckL [] l = 0 := by
  unfold ck at h
  by_cases h16 : (l.length : Int) > 16
  · simp [h16] at h
  · simp only [h16, decide_false, Bool.false_eq_true, if_false] at h
    exact ⟨by omega, h⟩
theorem lens_le {l : List Str} (h : ∀ s ∈ l, s.length ≤ 64) : Lib.lens l ≤ 64 * l.length := by
  induction l with
  | nil => simp [Lib.lens]
  | cons x r ih =>
    have h1 := h x (List.mem_cons_self)
    have h2 := ih fun s hs => h s (List.mem_cons_of_mem _ hs)
    simp [Lib.lens] at h2 ⊢; omega
theorem join_len {l : List Str} (h : l.length ≤ 16) (hv : ∀ s ∈ l, s.length ≤ 64) : (Lib.join l [32]).length ≤ 2000 := by
  cases l with
  | nil => simp [Lib.join_nil]
  | cons x r =>
    rw [Lib.join_length]
    have := lens_le hv
    simp at this h ⊢; omega
def textS (l : List Str) : Str × Int := if ck l != 0 then ([], ck l) else (Lib.join l [32], 0)
theorem scope_Text_eq (l : List Str) (hl : fitsAll l) : scope_Text l = some (textS l) := by
  unfold scope_Text textS
  rw [scope_Check_eq l hl, Option.bind_some]
  by_cases h : ck l = 0
  · have h1 := ck_ok h
    have h2 := join_len h1.1 fun s hs => (word_len (valid_word (ckL_ok [] h1.2 s hs))).2
    have h3 : (decide ((Lib.join l [32]).length ≤ 140737488355328) && decide (l.length ≤ 140737488355328)) = true := by simp; omega
    simp [h, lib_Join, h3, chk_true]
  · have : (ck l != 0) = true := by simpa using h
    simp [this]
theorem join_snoc (p : List Str) (x : Str) (h : p ≠ []) : Lib.join (p ++ [x]) [32] = Lib.join p [32] ++ [32] ++ x := by
  cases p with
  | nil => exact absurd rfl h
  | cons y r =>
    rw [List.cons_append, Lib.join_cons, Lib.join_cons]
    simp [Lib.joinTail]
theorem ref29_Text_eq (l : List Str) (hl : fitsAll l) : ref29_Text l = some (textS l) := by
  unfold ref29_Text textS
  rw [ref29_Check_eq l hl, Option.bind_some]
  by_cases h : ck l = 0
  · have h1 := ck_ok h
    have hv : ∀ s ∈ l, s.length ≤ 64 := fun s hs => (word_len (valid_word (ckL_ok [] h1.2 s hs))).2
    have h0 : (ck l != 0) = false := by simp [h]
    simp only [h0, Bool.false_eq_true, if_false]
    have key : ∀ (r : List Str) (i n : Nat), l.drop i = r → i ≤ l.length → r.length < n → ref29_Text_L1 n l (Lib.join (l.take i) [32]) (i : Int) = some (Lib.join l [32], 0) := by
      intro r
      induction r with
      | nil =>
        intro i n hd hi hn
        obtain ⟨n, rfl⟩ : ∃ k, n = k + 1 := ⟨n - 1, by simp at hn; omega⟩
        have hle := drop_nil hd
        rw [List.take_of_length_le hle]
        simp [ref29_Text_L1, show ¬ ((i : Int) < l.length) by omega]
      | cons x r ih =>
        intro i n hd hi hn
        obtain ⟨n, rfl⟩ : ∃ k, n = k + 1 := ⟨n - 1, by simp at hn; omega⟩
        obtain ⟨g1, g2, g3⟩ := drop_more hd
        have hlt := drop_lt hd
        have hx := hv x (List.mem_of_getElem? g2)
        have hlen := join_len (l := l.take i) (by simp; omega) fun s hs => hv s (List.mem_of_mem_take hs)
        have ih' := ih (i + 1) n g3 (by omega) (by simp at hn; omega)
        have hf : fitS (Lib.join (l.take i) [32]) [32] = true := by simp [fitS]; omega
        have hf2 : fitS (Lib.join (l.take i) [32] ++ [32]) x = true := by simp [fitS]; omega
        have hf3 : fitS (Lib.join (l.take i) [32]) x = true := by simp [fitS]; omega
        by_cases h0 : i = 0
        · subst h0
          have e : Lib.join (l.take (0 + 1)) [32] = Lib.join (l.take 0) [32] ++ x := by rw [take_more hd]; simp [Lib.join_one, Lib.join_nil]
          rw [e] at ih'
          simp only [ref29_Text_L1, ref29_Text_B2, show (((0 : Nat) : Int) < l.length) by omega, decide_true, if_true, idx_n, g2, Option.bind_some, hf3, chk_true, w64n (show 0 < 9223372036854775807 by omega), ih']
          simp
        · have e : Lib.join (l.take (i + 1)) [32] = Lib.join (l.take i) [32] ++ [32] ++ x := by
            rw [take_more hd, join_snoc _ _ (by
              intro hnil
              have := congrArg List.length hnil
              rw [List.length_take, List.length_nil] at this; omega)]
          rw [e] at ih'
          simp only [ref29_Text_L1, ref29_Text_B2, show ((i : Int) < l.length) by omega, show ((i : Int) > 0) by omega, decide_true, if_true, hf, chk_true, idx_n, g2, Option.bind_some, hf2, w64n (show i < 9223372036854775807 by omega), ih']
    have := key l 0 fuel rfl (by omega) (by unfold fuel; omega)
    simpa [Lib.join_nil] using this
  · have : (ck l != 0) = true := by simpa using h
    simp [this]

theorem spl_parts {s : Str} (cur : Str) {N : Nat} (h : cur.length + s.length ≤ N) : (∀ x ∈ spl cur s, x.length ≤ N) ∧ (spl cur s).length ≤ s.length + 1 := by
  induction s generalizing cur N with
  | nil => simp [spl] at h ⊢; omega
  | cons u r ih =>
    unfold spl
    split
    · obtain ⟨h1, h2⟩ := ih [] (N := N) (by simp at h ⊢; omega)
      refine ⟨fun x hx => ?_, by simp at h2 ⊢; omega⟩
      rcases List.mem_cons.1 hx with rfl | hx
      · simp at h; omega
      · exact h1 x hx
    · obtain ⟨h1, h2⟩ := ih (cur ++ [u]) (N := N) (by simp at h ⊢; omega)
      exact ⟨h1, by simp at h2 ⊢; omega⟩
def parseS (s : Str) : List Str × Int := if s == [] then ([], 0) else if ck (spl [] s) != 0 then ([], ck (spl [] s)) else (spl [] s, 0)
theorem scope_Parse_eq (s : Str) (hs : s.length ≤ 2000) : scope_Parse s = some (parseS s) := by
  unfold scope_Parse parseS
  cases s == [] with
  | true => simp
  | false =>
    have hp := spl_parts (s := s) [] (N := 2000) (by simpa using hs)
    have hf : fitsAll (spl [] s) := fun x hx => by have := hp.1 x hx; unfold fits; omega
    have h1 : (decide (s.length < 4294967281) && decide (1 ≤ ([32] : Str).length)) = true := by simp; omega
    simp only [Bool.false_eq_true, if_false, lib_Split, h1, chk_true, Option.bind_some, split_spl, scope_Check_eq _ hf]
    split <;> rfl
theorem ref29_Parse_eq (s : Str) (hs : s.length ≤ 2000) : ref29_Parse s = some (parseS s) := by
  unfold ref29_Parse parseS
  cases hne : s == [] with
  | true => simp
  | false =>
    simp only [Bool.false_eq_true, if_false]
    have hp := spl_parts (s := s) [] (N := 2000) (by simpa using hs)
    have hf : fitsAll (spl [] s) := fun x hx => by have := hp.1 x hx; unfold fits; omega
    have fin : ∀ (out : List Str) (f : Int) (n : Nat), out = spl [] s → ref29_Parse_L1 (n + 1) s out f ((s.length + 1 : Nat) : Int) = some (if ck (spl [] s) != 0 then ([], ck (spl [] s)) else (spl [] s, 0)) := by
      intro out f n ho
      subst ho
      simp only [ref29_Parse_L1, show ¬ (((s.length + 1 : Nat) : Int) ≤ s.length) by omega, decide_false, Bool.false_eq_true, if_false, ref29_Check_eq _ hf, Option.bind_some]
      split <;> rfl
    have key : ∀ (r : Str) (out : List Str) (f i n : Nat), s.drop i = r → i ≤ s.length → f ≤ i → out.length ≤ i → out ++ spl ((s.drop f).take (i - f)) r = spl [] s → r.length + 1 < n →
        ref29_Parse_L1 n s out (f : Int) (i : Int) = some (if ck (spl [] s) != 0 then ([], ck (spl [] s)) else (spl [] s, 0)) := by
      intro r
      induction r with
      | nil =>
        intro out f i n hd hi hfi ho hsp hn
        obtain ⟨n, rfl⟩ : ∃ k, n = k + 2 := ⟨n - 2, by simp at hn; omega⟩
        have hle := drop_nil hd
        have hi' : i = s.length := by omega
        subst hi'
        have h1 : inc (f : Int) ((s.length : Nat) : Int) s.length = true := by rw [inc_n]; simp; omega
        have h2 : fitL out.length ([cut s (f : Int) ((s.length : Nat) : Int)] : List Str).length = true := by simp [fitL]; omega
        have e : out ++ [cut s (f : Int) ((s.length : Nat) : Int)] = spl [] s := by rw [← hsp, cut_n]; simp [spl]
        have := fin (out ++ [cut s (f : Int) ((s.length : Nat) : Int)]) ((s.length + 1 : Nat) : Int) n e
        rw [ref29_Parse_L1]
        simp only [Int.le_refl, decide_true, if_true, beq_self_eq_true, Option.bind_some, h1, h2, chk_true, ref29_Parse_B2, w64n (show s.length < 9223372036854775807 by omega), this]
      | cons u r ih =>
        intro out f i n hd hi hfi ho hsp hn
        obtain ⟨n, rfl⟩ : ∃ k, n = k + 1 := ⟨n - 1, by simp at hn; omega⟩
        obtain ⟨g1, g2, g3⟩ := drop_more hd
        have hlt := drop_lt hd
        have h1 : inc (f : Int) (i : Int) s.length = true := by rw [inc_n]; simp; omega
        have h2 : fitL out.length ([cut s (f : Int) (i : Int)] : List Str).length = true := by simp [fitL]; omega
        have hne : ((i : Int) == (s.length : Int)) = false := by simp; omega
        have hinb : inb (i : Int) s.length = true := by rw [inb_n]; simp; omega
        rw [ref29_Parse_L1]
        simp only [show ((i : Int) ≤ s.length) by omega, decide_true, if_true, hne, Bool.false_eq_true, if_false, hinb, chk_true, byteAt_some g2, u8_32 u, Option.bind_some, h1, h2, ref29_Parse_B2, w64n (show i < 9223372036854775807 by omega)]
        cases hu : u == 32 with
        | true =>
          have hu' := hu
          simp only [if_true]
          refine ih _ (i + 1) (i + 1) n g3 (by omega) (by omega) (by simp; omega) ?_ (by simp at hn ⊢; omega)
          rw [← hsp, cut_n]
          simp [spl, hu']
        | false =>
          have hu' := hu
          simp only [Bool.false_eq_true, if_false]
          refine ih _ f (i + 1) n g3 (by omega) (by omega) (by omega) ?_ (by simp at hn ⊢; omega)
          rw [← hsp]
          have e : (s.drop f).take (i + 1 - f) = (s.drop f).take (i - f) ++ [u] := by
            rw [show i + 1 - f = (i - f) + 1 by omega, List.take_add_one, List.getElem?_drop, show f + (i - f) = i by omega, g2]; rfl
          rw [e, spl, hu']; simp
    have := key s [] 0 0 fuel rfl (by omega) (by omega) (by simp) (by simp) (by unfold fuel; omega)
    simpa using this
/-! ### one scope within another -/
def pre (a b : Str) : Bool := decide (b.length > a.length) && (b.take (a.length + 1) == a ++ [46])
def imp (a b : Str) : Bool := (valid a && valid b) && (a == b || pre a b)
theorem valid_len {s : Str} (h : valid s = true) : 1 ≤ s.length ∧ s.length ≤ 64 := word_len (valid_word h)
theorem pre_prefix (a b : Str) (hl : a.length ≤ 64) (hb : b.length ≤ 64) : strings_HasPrefix b (a ++ [46]) = some (pre a b) := by
  have e : (a ++ [46]).length = a.length + 1 := by simp
  unfold strings_HasPrefix internal_stringslite_HasPrefix pre
  rw [e]
  by_cases h : b.length > a.length
  · have h1 : inc 0 ((a.length + 1 : Nat) : Int) b.length = true := by rw [inc_0]; simp; omega
    simp only [show ((b.length : Int) ≥ ((a.length + 1 : Nat) : Int)) by omega, decide_true, if_true, h1, chk_true, cut_0, Option.bind_some, h, Bool.true_and]
  · have h0 : decide ((b.length : Int) ≥ ((a.length + 1 : Nat) : Int)) = false := by simp; omega
    simp only [h0, Bool.false_eq_true, if_false, Option.bind_some, h, decide_false, Bool.false_and]
theorem scope_Implies_eq (a b : Str) (ha : fits a) (hb : fits b) : scope_Implies a b = some (imp a b) := by
  unfold scope_Implies imp
  rw [scope_valid_eq a ha, scope_valid_eq b hb, Option.bind_some]
  cases va : valid a with
  | false => simp
  | true =>
    cases vb : valid b with
    | false => simp
    | true =>
      have la := valid_len va
      have lb := valid_len vb
      have hf : fitS a [46] = true := by simp [fitS]; omega
      simp only [if_true, Option.bind_some, Bool.true_and, hf, chk_true, pre_prefix a b la.2 lb.2]
      cases a == b <;> simp
theorem ref29_Implies_eq (a b : Str) (ha : fits a) (hb : fits b) : ref29_Implies a b = some (imp a b) := by
  unfold ref29_Implies imp
  rw [ref29_Valid_eq a ha, ref29_Valid_eq b hb, Option.bind_some]
  cases va : valid a with
  | false => simp
  | true =>
    cases vb : valid b with
    | false => simp
    | true =>
      have la := valid_len va
      have lb := valid_len vb
      have hf : fitS a [46] = true := by simp [fitS]; omega
      simp only [if_true, Option.bind_some, Bool.true_and, hf, chk_true, w64n (show a.length < 9223372036854775807 by omega), cut_0, pre]
      cases a == b with
      | true => simp
      | false =>
        by_cases h : b.length > a.length
        · have h1 : inc 0 ((a.length + 1 : Nat) : Int) b.length = true := by rw [inc_0]; simp; omega
          simp only [Bool.false_eq_true, if_false, show ((b.length : Int) > (a.length : Int)) by omega, decide_true, if_true, h1, chk_true, Option.bind_some, h, Bool.true_and, Bool.false_or]
        · simp [show ¬ ((b.length : Int) > (a.length : Int)) by omega, h]

def cov (l : List Str) (s : Str) : Bool := l.any fun t => imp t s
def within (a b : List Str) : Bool := a.all fun x => cov b x
/-- few enough strings that can be held -/
def sm (l : List Str) : Prop := l.length ≤ 1000 ∧ fitsAll l
theorem sm.at {l : List Str} (h : sm l) {i : Nat} {x : Str} (hx : l[i]? = some x) : fits x := fitsAll_at h.2 hx
theorem scope_covered_eq (s : Str) (l : List Str) (hs : fits s) (hl : sm l) : scope_covered s l = some (cov l s) := by
  have key : ∀ (r : List Str) (i n : Nat), l.drop i = r → i ≤ l.length → r.length < n → scope_covered_L1 n s l (l.length : Int) (i : Int) = some (r.any fun t => imp t s) := by
    have := hl.1
    intro r
    induction r with
    | nil =>
      intro i n hd hi hn
      obtain ⟨n, rfl⟩ : ∃ k, n = k + 1 := ⟨n - 1, by simp at hn; omega⟩
      have := drop_nil hd
      simp [scope_covered_L1, show ¬ ((i : Int) < l.length) by omega]
    | cons x r ih =>
      intro i n hd hi hn
      obtain ⟨n, rfl⟩ : ∃ k, n = k + 1 := ⟨n - 1, by simp at hn; omega⟩
      obtain ⟨h1, h2, h3⟩ := drop_more hd
      have hlt := drop_lt hd
      simp only [scope_covered_L1, show ((i : Int) < l.length) by omega, decide_true, if_true, idx_n, h2, Option.bind_some, scope_Implies_eq x s (hl.at h2) hs, w64n (show i < 9223372036854775807 by omega), ih (i + 1) n h3 (by omega) (by simp at hn; omega), List.any_cons]
      cases imp x s <;> simp
  exact key l 0 fuel rfl (by omega) (by have := hl.1; unfold fuel; omega)
theorem ref29_covers_eq (l : List Str) (s : Str) (hl : sm l) (hs : fits s) : ref29_covers l s = some (cov l s) := by
  have key : ∀ (r : List Str) (i n : Nat), l.drop i = r → i ≤ l.length → r.length < n → ref29_covers_L1 n l s (i : Int) = some (r.any fun t => imp t s) := by
    have := hl.1
    intro r
    induction r with
    | nil =>
      intro i n hd hi hn
      obtain ⟨n, rfl⟩ : ∃ k, n = k + 1 := ⟨n - 1, by simp at hn; omega⟩
      have := drop_nil hd
      simp [ref29_covers_L1, show ¬ ((i : Int) < l.length) by omega]
    | cons x r ih =>
      intro i n hd hi hn
      obtain ⟨n, rfl⟩ : ∃ k, n = k + 1 := ⟨n - 1, by simp at hn; omega⟩
      obtain ⟨h1, h2, h3⟩ := drop_more hd
      have hlt := drop_lt hd
      simp only [ref29_covers_L1, show ((i : Int) < l.length) by omega, decide_true, if_true, idx_n, h2, Option.bind_some, ref29_Implies_eq x s (hl.at h2) hs, w64n (show i < 9223372036854775807 by omega), ih (i + 1) n h3 (by omega) (by simp at hn; omega), List.any_cons]
      cases imp x s <;> simp
  exact key l 0 fuel rfl (by omega) (by have := hl.1; unfold fuel; omega)
theorem scope_Within_eq (a b : List Str) (ha : sm a) (hb : sm b) : scope_Within a b = some (within a b) := by
  have key : ∀ (r : List Str) (i n : Nat), a.drop i = r → i ≤ a.length → r.length < n → scope_Within_L1 n b a (a.length : Int) (i : Int) = some (r.all fun x => cov b x) := by
    have := ha.1
    intro r
    induction r with
    | nil =>
      intro i n hd hi hn
      obtain ⟨n, rfl⟩ : ∃ k, n = k + 1 := ⟨n - 1, by simp at hn; omega⟩
      have := drop_nil hd
      simp [scope_Within_L1, show ¬ ((i : Int) < a.length) by omega]
    | cons x r ih =>
      intro i n hd hi hn
      obtain ⟨n, rfl⟩ : ∃ k, n = k + 1 := ⟨n - 1, by simp at hn; omega⟩
      obtain ⟨h1, h2, h3⟩ := drop_more hd
      have hlt := drop_lt hd
      simp only [scope_Within_L1, show ((i : Int) < a.length) by omega, decide_true, if_true, idx_n, h2, Option.bind_some, scope_covered_eq x b (ha.at h2) hb, w64n (show i < 9223372036854775807 by omega), ih (i + 1) n h3 (by omega) (by simp at hn; omega), List.all_cons]
      cases cov b x <;> simp
  exact key a 0 fuel rfl (by omega) (by have := ha.1; unfold fuel; omega)
theorem ref29_Within_eq (a b : List Str) (ha : sm a) (hb : sm b) : ref29_Within a b = some (within a b) := by
  have key : ∀ (r : List Str) (i n : Nat), a.drop i = r → i ≤ a.length → r.length < n → ref29_Within_L1 n a b (i : Int) = some (r.all fun x => cov b x) := by
    have := ha.1
    intro r
    induction r with
    | nil =>
      intro i n hd hi hn
      obtain ⟨n, rfl⟩ : ∃ k, n = k + 1 := ⟨n - 1, by simp at hn; omega⟩
      have := drop_nil hd
      simp [ref29_Within_L1, show ¬ ((i : Int) < a.length) by omega]
    | cons x r ih =>
      intro i n hd hi hn
      obtain ⟨n, rfl⟩ : ∃ k, n = k + 1 := ⟨n - 1, by simp at hn; omega⟩
      obtain ⟨h1, h2, h3⟩ := drop_more hd
      have hlt := drop_lt hd
      simp only [ref29_Within_L1, show ((i : Int) < a.length) by omega, decide_true, if_true, idx_n, h2, Option.bind_some, ref29_covers_eq b x hb (ha.at h2), w64n (show i < 9223372036854775807 by omega), ih (i + 1) n h3 (by omega) (by simp at hn; omega), List.all_cons]
      cases cov b x <;> simp
  exact key a 0 fuel rfl (by omega) (by have := ha.1; unfold fuel; omega)
theorem ref03_Same_eq (a b : List Str) (ha : fits a) : ref03_Same a b = some (a == b) := by
  unfold ref03_Same
  by_cases hlen : a.length = b.length
  · have h0 : ((a.length : Int) != (b.length : Int)) = false := by simp [hlen]
    simp only [h0, Bool.false_eq_true, if_false]
    have key : ∀ (r q : List Str) (i n : Nat), a.drop i = r → b.drop i = q → i ≤ a.length → r.length < n → ref03_Same_L1 n a b (i : Int) = some (r == q) := by
      unfold fits at ha
      intro r
      induction r with
      | nil =>
        intro q i n hd hq hi hn
        obtain ⟨n, rfl⟩ : ∃ k, n = k + 1 := ⟨n - 1, by simp at hn; omega⟩
        have := drop_nil hd
        have hq' : q = [] := by rw [← hq]; simp; omega
        subst hq'
        simp [ref03_Same_L1, show ¬ ((i : Int) < a.length) by omega]
      | cons x r ih =>
        intro q i n hd hq hi hn
        obtain ⟨n, rfl⟩ : ∃ k, n = k + 1 := ⟨n - 1, by simp at hn; omega⟩
        obtain ⟨h1, h2, h3⟩ := drop_more hd
        have hlt := drop_lt hd
        cases q with
        | nil => have := drop_nil hq; omega
        | cons y q =>
          obtain ⟨g1, g2, g3⟩ := drop_more hq
          simp only [ref03_Same_L1, show ((i : Int) < a.length) by omega, decide_true, if_true, idx_n, h2, g2, Option.bind_some, w64n (show i < 9223372036854775807 by omega), ih q (i + 1) n h3 g3 (by omega) (by simp at hn; omega), List.cons_beq_cons]
          cases x == y <;> simp
    exact key a b 0 fuel rfl rfl (by omega) (fuel_pos ha)
  · have h0 : ((a.length : Int) != (b.length : Int)) = true := by simp; omega
    have h1 : (a == b) = false := by
      rw [Bool.eq_false_iff]; intro h; exact hlen (by rw [eq_of_beq h])
    simp [h0, h1]
/-! ### the sorted form -/
theorem str_lt_iff {x y : Str} : x < y ↔ ¬ y ≤ x := by
  constructor
  · intro h h'; exact str_not_lt.2 h' h
  · intro h
    rcases Decidable.em (x < y) with h1 | h1
    · exact h1
    · exact absurd (str_not_lt.1 h1) h
theorem str_lt_trans {x y z : Str} (h : x < y) (h' : y < z) : x < z := by
  rw [str_lt_iff] at *
  intro hz
  rcases str_le_total y z with h1 | h1
  · exact h (str_le_trans h1 hz)
  · exact h' h1
theorem str_lt_irrefl (x : Str) : ¬ x < x := fun h => str_lt_iff.1 h (by rcases str_le_total x x with h | h <;> exact h)
theorem str_lt_le {x y : Str} (h : x < y) : x ≤ y := by
  rcases str_le_total x y with h1 | h1
  · exact h1
  · exact absurd h1 (str_lt_iff.1 h)
theorem str_lt_of {x y : Str} (h : x ≤ y) (hn : x ≠ y) : x < y := str_lt_iff.2 fun h' => hn (str_le_antisymm h h')
/-- strictly ascending -/
def asc (l : List Str) : Prop := l.Pairwise (· < ·)
theorem asc_unique : ∀ {a b : List Str}, asc a → asc b → (∀ x, x ∈ a ↔ x ∈ b) → a = b := by
  intro a b ha hb h
  have na : a.Nodup := ha.imp (fun {x y} (h : x < y) (e : x = y) => str_lt_irrefl x (by rw [← e] at h; exact h))
  have nb : b.Nodup := hb.imp (fun {x y} (h : x < y) (e : x = y) => str_lt_irrefl x (by rw [← e] at h; exact h))
  exact sorted_unique ((List.perm_ext_iff_of_nodup na nb).2 h) (ha.imp str_lt_le) (hb.imp str_lt_le)
theorem sortS_asc {l : List Str} (h : l.Nodup) : asc (sortS l) := by
  have h1 := sortS_sorted l
  have h2 : (sortS l).Nodup := (sortS_perm l).nodup_iff.2 h
  exact (h1.and h2).imp fun h => str_lt_of h.1 h.2

/-- a scope of the list that no other one includes -/
def least (l : List Str) (x : Str) : Bool := valid x && l.all fun t => t == x || !imp t x
def sel (l : List Str) : List Str → List Str → List Str
  | _, [] => []
  | p, x :: r => if !valid x || p.contains x then sel l (p ++ [x]) r else if l.any (fun t => !(t == x) && imp t x) then sel l (p ++ [x]) r else x :: sel l (p ++ [x]) r
def sorted (l : List Str) : List Str := sortS (sel l [] l)
theorem least_any (l : List Str) (x : Str) : (l.all fun t => t == x || !imp t x) = !(l.any (fun t => !(t == x) && imp t x)) := by
  induction l with
  | nil => rfl
  | cons y l ih => simp only [List.all_cons, List.any_cons, ih]; cases y == x <;> cases imp y x <;> simp
theorem mem_sel (l : List Str) (x : Str) : ∀ (r p : List Str), x ∈ sel l p r ↔ x ∈ r ∧ x ∉ p ∧ least l x = true := by
  intro r
  induction r with
  | nil => intro p; simp [sel]
  | cons y r ih =>
    intro p
    have hc : p.contains y = true ↔ y ∈ p := by simp
    unfold sel
    by_cases h1 : (!valid y || p.contains y) = true
    · rw [if_pos h1, ih]
      simp only [List.mem_append, List.mem_cons, List.not_mem_nil, or_false, not_or]
      constructor
      · rintro ⟨a, ⟨b, c⟩, d⟩; exact ⟨.inr a, b, d⟩
      · rintro ⟨a, b, d⟩
        have hne : ¬ x = y := by
          rintro rfl
          simp only [Bool.or_eq_true, Bool.not_eq_true'] at h1
          rcases h1 with h1 | h1
          · unfold least at d; rw [h1] at d; simp at d
          · exact b (hc.1 h1)
        exact ⟨a.resolve_left hne, ⟨b, hne⟩, d⟩
    · rw [if_neg h1]
      by_cases h2 : l.any (fun t => !(t == y) && imp t y) = true
      · rw [if_pos h2, ih]
        simp only [List.mem_append, List.mem_cons, List.not_mem_nil, or_false, not_or]
        constructor
        · rintro ⟨a, ⟨b, c⟩, d⟩; exact ⟨.inr a, b, d⟩
        · rintro ⟨a, b, d⟩
          have hne : ¬ x = y := by
            rintro rfl
            unfold least at d; rw [least_any, h2] at d; simp at d
          exact ⟨a.resolve_left hne, ⟨b, hne⟩, d⟩
      · rw [if_neg h2, List.mem_cons, ih]
        simp only [Bool.or_eq_true, Bool.not_eq_true', not_or, Bool.not_eq_false] at h1
        have hy : y ∉ p := fun h => h1.2 (hc.2 h)
        have hl : least l y = true := by unfold least; rw [least_any, h1.1]; simp at h2 ⊢; exact h2
        simp only [List.mem_append, List.mem_cons, List.not_mem_nil, or_false, not_or]
        constructor
        · rintro (rfl | ⟨a, ⟨b, c⟩, d⟩)
          · exact ⟨.inl rfl, hy, hl⟩
          · exact ⟨.inr a, b, d⟩
        · rintro ⟨a, b, d⟩
          by_cases e : x = y
          · exact .inl e
          · exact .inr ⟨a.resolve_left e, ⟨b, e⟩, d⟩
theorem nodup_sel (l : List Str) : ∀ (r p : List Str), (sel l p r).Nodup := by
  intro r
  induction r with
  | nil => intro p; exact List.nodup_nil
  | cons y r ih =>
    intro p
    unfold sel
    split
    · exact ih _
    · split
      · exact ih _
      · refine List.nodup_cons.2 ⟨fun h => ?_, ih _⟩
        have := ((mem_sel l y r _).1 h).2.1
        simp at this
theorem sel_len (l : List Str) : ∀ (r p : List Str), (sel l p r).length ≤ r.length := by
  intro r
  induction r with
  | nil => intro p; simp [sel]
  | cons y r ih =>
    intro p
    unfold sel
    have := ih (p ++ [y])
    split
    · simp; omega
    · split <;> simp <;> omega
theorem mem_sorted (l : List Str) (x : Str) : x ∈ sorted l ↔ x ∈ l ∧ least l x = true := by
  unfold sorted
  rw [(sortS_perm _).mem_iff, mem_sel]; simp
theorem sorted_asc (l : List Str) : asc (sorted l) := sortS_asc (nodup_sel l l [])
theorem sorted_sm {l : List Str} (h : sm l) : sm (sorted l) := by
  refine ⟨?_, fun s hs => h.2 s ((mem_sorted l s).1 hs).1⟩
  have := sel_len l l []
  unfold sorted
  rw [(sortS_perm _).length_eq]; have := h.1; omega

theorem br3 {α : Type} (a b c : Bool) (p q : Option α) : ((if (!a) = true then some b else some false).bind fun z => if z = true then p else if c = true then p else q) = if (!a && b || c) = true then p else q := by
  cases a <;> cases b <;> cases c <;> rfl
theorem scope_Sorted_eq (l : List Str) (hl : sm l) : scope_Sorted l = some (sorted l) := by
  have h1000 := hl.1
  have inner : ∀ (r0 : List Str → List Str → List Str → Int → Int → Option (List Str)) (out : List Str) (x : Str) (i : Nat), out.length ≤ 1000 → i < l.length → fits x →
      ∀ (q : List Str) (k n : Nat), l.drop k = q → k ≤ l.length → q.length < n →
      scope_Sorted_L3 r0 n l out x l (l.length : Int) (i : Int) l (l.length : Int) (k : Int) =
        if q.any (fun t => !(t == x) && imp t x) then r0 l out l (l.length : Int) ((i + 1 : Nat) : Int) else r0 l (out ++ [x]) l (l.length : Int) ((i + 1 : Nat) : Int) := by
    intro r0 out x i ho hi hx q
    induction q with
    | nil =>
      intro k n hd hk hn
      obtain ⟨n, rfl⟩ : ∃ k, n = k + 1 := ⟨n - 1, by simp at hn; omega⟩
      have := drop_nil hd
      have hf : fitL out.length ([x] : List Str).length = true := by simp [fitL]; omega
      rw [scope_Sorted_L3]
      simp only [show ¬ ((k : Int) < l.length) by omega, decide_false, Bool.false_eq_true, if_false, hf, chk_true, scope_Sorted_B2, w64n (show i < 9223372036854775807 by omega), List.any_nil]
    | cons y q ih =>
      intro k n hd hk hn
      obtain ⟨n, rfl⟩ : ∃ k, n = k + 1 := ⟨n - 1, by simp at hn; omega⟩
      obtain ⟨h1, h2, h3⟩ := drop_more hd
      have hlt := drop_lt hd
      rw [scope_Sorted_L3]
      simp only [show ((k : Int) < l.length) by omega, decide_true, if_true, idx_n, h2, Option.bind_some, scope_Implies_eq y x (hl.at h2) hx, w64n (show k < 9223372036854775807 by omega), w64n (show i < 9223372036854775807 by omega), ih (k + 1) n h3 (by omega) (by simp at hn; omega), List.any_cons, scope_Sorted_B2]
      exact br3 _ _ _ _ _
  have key : ∀ (r : List Str) (i n : Nat) (out : List Str), l.drop i = r → i ≤ l.length → out.length ≤ i → r.length < n →
      scope_Sorted_L1 n l out l (l.length : Int) (i : Int) = some (sortS (out ++ sel l (l.take i) r)) := by
    intro r
    induction r with
    | nil =>
      intro i n out hd hi ho hn
      obtain ⟨n, rfl⟩ : ∃ k, n = k + 1 := ⟨n - 1, by simp at hn; omega⟩
      have := drop_nil hd
      have hs : decide (out.length < 4611686018427387904) = true := by simp; omega
      simp only [scope_Sorted_L1, show ¬ ((i : Int) < l.length) by omega, decide_false, Bool.false_eq_true, if_false, lib_Sort, hs, chk_true, Option.bind_some, sel, List.append_nil]
    | cons x r ih =>
      intro i n out hd hi ho hn
      obtain ⟨n, rfl⟩ : ∃ k, n = k + 1 := ⟨n - 1, by simp at hn; omega⟩
      obtain ⟨h1, h2, h3⟩ := drop_more hd
      have hlt := drop_lt hd
      have hi' : inc 0 (i : Int) l.length = true := by rw [inc_0]; simp; omega
      have hft : fits (l.take i) := by unfold fits; rw [take_len hlt]; omega
      have hin := inner (scope_Sorted_L1 n) out x i (by omega) hlt (hl.at h2) l 0 fuel rfl (by omega) (by unfold fuel; omega)
      have hin' : scope_Sorted_L3 (scope_Sorted_L1 n) fuel l out x l (l.length : Int) (i : Int) l (l.length : Int) 0 = _ := hin
      have e1 := ih (i + 1) n out h3 (by omega) (by omega) (by simp at hn; omega)
      have e2 := ih (i + 1) n (out ++ [x]) h3 (by omega) (by simp; omega) (by simp at hn; omega)
      simp only [scope_Sorted_L1, show ((i : Int) < l.length) by omega, decide_true, if_true, idx_n, h2, Option.bind_some, scope_valid_eq x (hl.at h2), hi', chk_true, cut_0, slices_Contains_eq _ _ hft, hin', scope_Sorted_B2, w64n (show i < 9223372036854775807 by omega), e1, e2, sel, take_more hd]
      cases valid x <;> cases (l.take i).contains x <;> cases l.any (fun t => !(t == x) && imp t x) <;> simp
  have := key l 0 fuel [] rfl (by omega) (by simp) (by unfold fuel; omega)
  simpa [scope_Sorted, sorted] using this
/-! ### the specification's sorted form -/
def insF (s : Str) : Bool → List Str → List Str
  | d, [] => if !d then [s] else []
  | d, y :: r => (if !d && !sLt y s then [s] else []) ++ ((if !(y == s) then [y] else []) ++ insF s (d || !sLt y s) r)
theorem insF_true (s : Str) : ∀ l : List Str, insF s true l = l.filter fun y => !(y == s)
  | [] => rfl
  | y :: r => by
    unfold insF
    rw [Bool.true_or, insF_true s r, List.filter_cons]
    cases y == s <;> simp
theorem insF_false (s : Str) : ∀ l : List Str, asc l → asc (insF s false l) ∧ ∀ x, x ∈ insF s false l ↔ x = s ∨ x ∈ l
  | [], _ => by constructor <;> simp [insF, asc]
  | y :: r, h => by
    obtain ⟨h1, h2⟩ := List.pairwise_cons.1 h
    obtain ⟨i1, i2⟩ := insF_false s r h2
    unfold insF
    cases hc : sLt y s with
    | true =>
      have hlt : y < s := by rw [sLt_eq] at hc; exact of_decide_eq_true hc
      have hne : (y == s) = false := by rw [beq_eq_false_iff_ne]; rintro rfl; exact str_lt_irrefl _ hlt
      simp only [Bool.not_true, Bool.and_false, Bool.false_eq_true, if_false, List.nil_append, hne, Bool.not_false, if_true, Bool.or_false, List.singleton_append]
      refine ⟨List.pairwise_cons.2 ⟨fun z hz => ?_, i1⟩, fun x => ?_⟩
      · rcases (i2 z).1 hz with rfl | hz
        · exact hlt
        · exact h1 z hz
      · simp only [List.mem_cons, i2]
        constructor
        · rintro (h | h | h) <;> simp [h]
        · rintro (h | h | h) <;> simp [h]
    | false =>
      have hle : s ≤ y := by
        rw [sLt_eq] at hc; exact str_not_lt.1 (of_decide_eq_false hc)
      simp only [Bool.not_false, Bool.and_true, if_true, Bool.false_or, Bool.or_true, insF_true]
      cases hy : y == s with
      | true =>
        have e : y = s := eq_of_beq hy
        subst e
        have hf : r.filter (fun z => !(z == y)) = r := List.filter_eq_self.2 fun z hz => by
          have := h1 z hz
          simp; rintro rfl; exact str_lt_irrefl _ this
        simp only [Bool.not_true, Bool.false_eq_true, if_false, List.nil_append, hf, List.singleton_append]
        exact ⟨h, fun x => by simp⟩
      | false =>
        have hne : s ≠ y := by rintro rfl; simp at hy
        have hlt : s < y := str_lt_of hle hne
        have hf : r.filter (fun z => !(z == s)) = r := List.filter_eq_self.2 fun z hz => by
          have := str_lt_trans hlt (h1 z hz)
          simp; rintro rfl; exact str_lt_irrefl _ this
        simp only [Bool.not_false, if_true, hf, List.singleton_append]
        refine ⟨List.pairwise_cons.2 ⟨fun z hz => ?_, h⟩, fun x => by simp⟩
        rcases List.mem_cons.1 hz with rfl | hz
        · exact hlt
        · exact str_lt_trans hlt (h1 z hz)
theorem insF_len (s : Str) : ∀ (l : List Str) (d : Bool), (insF s d l).length ≤ l.length + (if d then 0 else 1) ∧ (insF s d l).length ≤ l.length + 1
  | [], d => by cases d <;> simp [insF]
  | y :: r, d => by
    have h1 := insF_len s r true
    have h2 := insF_len s r false
    unfold insF
    cases d <;> cases sLt y s <;> cases y == s <;> simp at h1 h2 ⊢ <;> omega
theorem ref06_Insert_eq (l : List Str) (s : Str) (hl : l.length ≤ 1000) : ref06_Insert l s = some (insF s false l) := by
  have key : ∀ (r : List Str) (i n : Nat) (out : List Str) (d : Bool), l.drop i = r → i ≤ l.length → out.length ≤ i + (if d then 1 else 0) → r.length < n →
      ref06_Insert_L1 n l s out d (i : Int) = some (out ++ insF s d r) := by
    intro r
    induction r with
    | nil =>
      intro i n out d hd hi ho hn
      obtain ⟨n, rfl⟩ : ∃ k, n = k + 1 := ⟨n - 1, by simp at hn; omega⟩
      have := drop_nil hd
      have hf : fitL out.length ([s] : List Str).length = true := by cases d <;> simp [fitL] at ho ⊢ <;> omega
      simp only [ref06_Insert_L1, show ¬ ((i : Int) < l.length) by omega, decide_false, Bool.false_eq_true, if_false, hf, chk_true, ref06_Insert_B4, insF]
      cases d <;> simp
    | cons x r ih =>
      intro i n out d hd hi ho hn
      obtain ⟨n, rfl⟩ : ∃ k, n = k + 1 := ⟨n - 1, by simp at hn; omega⟩
      obtain ⟨h1, h2, h3⟩ := drop_more hd
      have hlt := drop_lt hd
      have hw := w64n (show i < 9223372036854775807 by omega)
      have B2 : ∀ (out : List Str) (d : Bool), out.length ≤ i + (if d then 1 else 0) → ref06_Insert_B2 (ref06_Insert_L1 n) l s out d (i : Int) = some (out ++ ((if !(x == s) then [x] else []) ++ insF s d r)) := by
        intro out d ho
        have hf : fitL out.length ([x] : List Str).length = true := by cases d <;> simp [fitL] at ho ⊢ <;> omega
        have e1 := ih (i + 1) n (out ++ [x]) d h3 (by omega) (by simp; omega) (by simp at hn; omega)
        have e2 := ih (i + 1) n out d h3 (by omega) (by omega) (by simp at hn; omega)
        unfold ref06_Insert_B2 ref06_Insert_B3
        rw [idx_n, h2, Option.bind_some, Option.bind_some, hf, chk_true, hw, e1, e2]
        by_cases he : (!(x == s)) = true
        · rw [if_pos he, if_pos he]; simp
        · rw [if_neg he, if_neg he]; simp
      rw [ref06_Insert_L1, idx_n, h2]
      simp only [show ((i : Int) < l.length) by omega, decide_true, if_true, Option.bind_some]
      cases d with
      | true =>
        rw [B2 out true ho]
        simp [insF]
      | false =>
        have hf : fitL out.length ([s] : List Str).length = true := by simp [fitL] at ho ⊢; omega
        simp only [Bool.not_false, if_true, Option.bind_some, hf, chk_true]
        rw [B2 out false ho, B2 (out ++ [s]) true (by simp at ho ⊢; omega)]
        cases hc : sLt x s <;> simp [insF, hc]
  have := key l 0 fuel [] false rfl (by omega) (by simp) (by unfold fuel; omega)
  simpa [ref06_Insert] using this

theorem ref29_Sorted_eq (l : List Str) (hl : sm l) (h500 : l.length ≤ 500) : ref29_Sorted l = some (sorted l) := by
  have inner : ∀ (r0 : List Str → List Str → Int → Option (List Str)) (out : List Str) (x : Str) (i : Nat), out.length ≤ 1000 → l[i]? = some x → fits x →
      ∀ (q : List Str) (k n : Nat) (b : Bool), l.drop k = q → k ≤ l.length → q.length < n →
      ref29_Sorted_L2 r0 n l out (i : Int) b (k : Int) = if b && q.all (fun t => t == x || !imp t x) then r0 l (insF x false out) ((i + 1 : Nat) : Int) else r0 l out ((i + 1 : Nat) : Int) := by
    intro r0 out x i ho hix hx q
    have hi : i < l.length := (List.getElem?_eq_some_iff.1 hix).1
    induction q with
    | nil =>
      intro k n b hd hk hn
      obtain ⟨n, rfl⟩ : ∃ k, n = k + 1 := ⟨n - 1, by simp at hn; omega⟩
      have := drop_nil hd
      rw [ref29_Sorted_L2]
      simp only [show ¬ ((k : Int) < l.length) by omega, decide_false, Bool.false_eq_true, if_false, idx_n, hix, Option.bind_some, ref06_Insert_eq out x ho, ref29_Sorted_B3, w64n (show i < 9223372036854775807 by omega), List.all_nil, Bool.and_true]
    | cons y q ih =>
      intro k n b hd hk hn
      obtain ⟨n, rfl⟩ : ∃ k, n = k + 1 := ⟨n - 1, by simp at hn; omega⟩
      obtain ⟨h1, h2, h3⟩ := drop_more hd
      have hlt := drop_lt hd
      rw [ref29_Sorted_L2]
      simp only [show ((k : Int) < l.length) by omega, decide_true, if_true, idx_n, h2, hix, Option.bind_some, ref29_Implies_eq y x (hl.at h2) hx, w64n (show k < 9223372036854775807 by omega), List.all_cons]
      have e : (if b = true then (if (y == x) = true then some true else some (!imp y x)).bind fun z44 => some z44 else some false) = some (b && (y == x || !imp y x)) := by
        by_cases hyx : (y == x) = true
        · rw [if_pos hyx, hyx]; cases b <;> rfl
        · rw [if_neg hyx, Bool.eq_false_iff.2 hyx]; cases b <;> cases imp y x <;> rfl
      rw [e, Option.bind_some, ih (k + 1) n _ h3 (by omega) (by simp at hn; omega), Bool.and_assoc]
      rfl
  have key : ∀ (r : List Str) (i n : Nat) (out : List Str), l.drop i = r → i ≤ l.length → out.length ≤ i → r.length < n → asc out → (∀ x, x ∈ out ↔ x ∈ l.take i ∧ least l x = true) →
      ref29_Sorted_L1 n l out (i : Int) = some (sorted l) := by
    intro r
    induction r with
    | nil =>
      intro i n out hd hi ho hn ha hm
      obtain ⟨n, rfl⟩ : ∃ k, n = k + 1 := ⟨n - 1, by simp at hn; omega⟩
      have hle := drop_nil hd
      simp only [ref29_Sorted_L1, show ¬ ((i : Int) < l.length) by omega, decide_false, Bool.false_eq_true, if_false, Option.some.injEq]
      rw [List.take_of_length_le hle] at hm
      exact asc_unique ha (sorted_asc l) fun x => (hm x).trans (mem_sorted l x).symm
    | cons x r ih =>
      intro i n out hd hi ho hn ha hm
      obtain ⟨n, rfl⟩ : ∃ k, n = k + 1 := ⟨n - 1, by simp at hn; omega⟩
      obtain ⟨h1, h2, h3⟩ := drop_more hd
      have hlt := drop_lt hd
      have hin : ref29_Sorted_L2 (ref29_Sorted_L1 n) fuel l out (i : Int) (valid x) 0 = _ := inner (ref29_Sorted_L1 n) out x i (by omega) h2 (hl.at h2) l 0 fuel (valid x) rfl (by omega) (by unfold fuel; omega)
      have hc : (valid x && l.all (fun t => t == x || !imp t x)) = least l x := rfl
      simp only [ref29_Sorted_L1, show ((i : Int) < l.length) by omega, decide_true, if_true, idx_n, h2, Option.bind_some, ref29_Valid_eq x (hl.at h2), hin, hc]
      by_cases hx : least l x = true
      · rw [if_pos hx]
        have hI := insF_false x out ha
        refine ih (i + 1) n _ h3 (by omega) ?_ (by simp at hn; omega) hI.1 fun z => ?_
        · have := (insF_len x out false).2; omega
        · rw [hI.2, take_more hd, hm]
          simp only [List.mem_append, List.mem_cons, List.not_mem_nil, or_false]
          constructor
          · rintro (rfl | h)
            · exact ⟨.inr rfl, hx⟩
            · exact ⟨.inl h.1, h.2⟩
          · rintro ⟨h | h, h'⟩
            · exact .inr ⟨h, h'⟩
            · exact .inl h
      · rw [if_neg hx]
        refine ih (i + 1) n _ h3 (by omega) (by omega) (by simp at hn; omega) ha fun z => ?_
        rw [take_more hd, hm]
        simp only [List.mem_append, List.mem_cons, List.not_mem_nil, or_false]
        constructor
        · rintro ⟨h, h'⟩; exact ⟨.inl h, h'⟩
        · rintro ⟨h | h, h'⟩
          · exact ⟨h, h'⟩
          · subst h; exact absurd h' hx
  have := key l 0 fuel [] rfl (by omega) (by simp) (by unfold fuel; omega) List.Pairwise.nil (by simp)
  simpa [ref29_Sorted] using this

/-! ### Common and Minus -/
def common (a b : List Str) : List Str := sorted (a.filter (cov b) ++ b.filter (cov a))
def minus (a b : List Str) : List Str := sorted (a.filter fun x => !cov b x)
theorem sm_filter {l : List Str} (h : sm l) (p : Str → Bool) : sm (l.filter p) :=
  ⟨Nat.le_trans (List.length_filter_le _ _) h.1, fun s hs => h.2 s ((List.mem_filter.1 hs).1)⟩
/-- short lists -/
def sm2 (l : List Str) : Prop := l.length ≤ 200 ∧ fitsAll l
theorem sm2.sm {l : List Str} (h : sm2 l) : sm l := ⟨by have := h.1; omega, h.2⟩
theorem sm2_filter {l : List Str} (h : sm2 l) (p : Str → Bool) : sm2 (l.filter p) :=
  ⟨Nat.le_trans (List.length_filter_le _ _) h.1, fun s hs => h.2 s ((List.mem_filter.1 hs).1)⟩
theorem sm_both {a b : List Str} (ha : sm2 a) (hb : sm2 b) : sm (a ++ b) ∧ (a ++ b).length ≤ 500 := by
  have h1 := ha.1; have h2 := hb.1
  refine ⟨⟨by simp; omega, fun s hs => ?_⟩, by simp; omega⟩
  rcases List.mem_append.1 hs with h | h
  · exact ha.2 s h
  · exact hb.2 s h
theorem sorted_sm2 {l : List Str} (h : sm2 l) : sm2 (sorted l) := by
  refine ⟨?_, (sorted_sm h.sm).2⟩
  have := sel_len l l []
  unfold sorted
  rw [(sortS_perm _).length_eq]; have := h.1; omega

theorem scope_Minus_eq (a b : List Str) (ha : sm2 a) (hb : sm2 b) : scope_Minus a b = some (minus a b) := by
  have h200 := ha.1
  have key : ∀ (r : List Str) (i n : Nat) (out : List Str), a.drop i = r → i ≤ a.length → out.length ≤ i → r.length < n → out ++ r.filter (fun x => !cov b x) = a.filter (fun x => !cov b x) →
      scope_Minus_L1 n b out a (a.length : Int) (i : Int) = some (minus a b) := by
    intro r
    induction r with
    | nil =>
      intro i n out hd hi ho hn he
      obtain ⟨n, rfl⟩ : ∃ k, n = k + 1 := ⟨n - 1, by simp at hn; omega⟩
      have := drop_nil hd
      have he' : out = a.filter (fun x => !cov b x) := by simpa using he
      subst he'
      simp only [scope_Minus_L1, show ¬ ((i : Int) < a.length) by omega, decide_false, Bool.false_eq_true, if_false, scope_Sorted_eq _ (sm_filter ha.sm _), Option.bind_some, minus]
    | cons x r ih =>
      intro i n out hd hi ho hn he
      obtain ⟨n, rfl⟩ : ∃ k, n = k + 1 := ⟨n - 1, by simp at hn; omega⟩
      obtain ⟨h1, h2, h3⟩ := drop_more hd
      have hlt := drop_lt hd
      have hf : fitL out.length ([x] : List Str).length = true := by simp [fitL]; omega
      simp only [scope_Minus_L1, show ((i : Int) < a.length) by omega, decide_true, if_true, idx_n, h2, Option.bind_some, scope_covered_eq x b (ha.sm.at h2) hb.sm, hf, chk_true, scope_Minus_B2, w64n (show i < 9223372036854775807 by omega)]
      rw [List.filter_cons] at he
      by_cases hc : (!cov b x) = true
      · rw [if_pos hc] at he
        rw [if_pos hc]
        exact ih (i + 1) n _ h3 (by omega) (by simp; omega) (by simp at hn; omega) (by rw [List.append_assoc]; exact he)
      · rw [if_neg hc] at he
        rw [if_neg hc]
        exact ih (i + 1) n _ h3 (by omega) (by omega) (by simp at hn; omega) he
  have := key a 0 fuel [] rfl (by omega) (by simp) (by unfold fuel; omega) rfl
  simpa [scope_Minus] using this
theorem ref29_Minus_eq (a b : List Str) (ha : sm2 a) (hb : sm2 b) : ref29_Minus a b = some (minus a b) := by
  have h200 := ha.1
  have key : ∀ (r : List Str) (i n : Nat) (out : List Str), a.drop i = r → i ≤ a.length → out.length ≤ 0 + i → r.length < n → out ++ r.filter (fun x => !cov b x) = a.filter (fun x => !cov b x) →
      ref29_Minus_L1 n a b out (i : Int) = some (minus a b) := by
    intro r
    induction r with
    | nil =>
      intro i n out hd hi ho hn he
      obtain ⟨n, rfl⟩ : ∃ k, n = k + 1 := ⟨n - 1, by simp at hn; omega⟩
      have := drop_nil hd
      have he' : out = a.filter (fun x => !cov b x) := by simpa using he
      subst he'
      simp only [ref29_Minus_L1, show ¬ ((i : Int) < a.length) by omega, decide_false, Bool.false_eq_true, if_false, ref29_Sorted_eq _ (sm_filter ha.sm _) (Nat.le_trans (List.length_filter_le _ _) (by omega)), Option.bind_some, minus]
    | cons x r ih =>
      intro i n out hd hi ho hn he
      obtain ⟨n, rfl⟩ : ∃ k, n = k + 1 := ⟨n - 1, by simp at hn; omega⟩
      obtain ⟨h1, h2, h3⟩ := drop_more hd
      have hlt := drop_lt hd
      have hf : fitL out.length ([x] : List Str).length = true := by simp [fitL]; omega
      simp only [ref29_Minus_L1, show ((i : Int) < a.length) by omega, decide_true, if_true, idx_n, h2, Option.bind_some, ref29_covers_eq b x hb.sm (ha.sm.at h2), hf, chk_true, ref29_Minus_B2, w64n (show i < 9223372036854775807 by omega)]
      rw [List.filter_cons] at he
      by_cases hc : (!cov b x) = true
      · rw [if_pos hc] at he
        rw [if_pos hc]
        exact ih (i + 1) n _ h3 (by omega) (by simp; omega) (by simp at hn; omega) (by rw [List.append_assoc]; exact he)
      · rw [if_neg hc] at he
        rw [if_neg hc]
        exact ih (i + 1) n _ h3 (by omega) (by omega) (by simp at hn; omega) he
  have := key a 0 fuel [] rfl (by omega) (by simp) (by unfold fuel; omega) rfl
  simpa [ref29_Minus] using this
theorem scope_Common_eq (a b : List Str) (ha : sm2 a) (hb : sm2 b) : scope_Common a b = some (common a b) := by
  have h200 := ha.1
  have hb200 := hb.1
  have hbo := sm_both (sm2_filter ha (cov b)) (sm2_filter hb (cov a))
  have inner : ∀ (r0 : List Str → List Str → List Str → List Str → Int → Int → Option (List Str)) (r : List Str) (i n : Nat) (out : List Str), b.drop i = r → i ≤ b.length → out.length ≤ a.length + i → r.length < n → out ++ r.filter (cov a) = a.filter (cov b) ++ b.filter (cov a) →
      scope_Common_L3 r0 n a out b (b.length : Int) (i : Int) = some (common a b) := by
    intro r0
    intro r
    induction r with
    | nil =>
      intro i n out hd hi ho hn he
      obtain ⟨n, rfl⟩ : ∃ k, n = k + 1 := ⟨n - 1, by simp at hn; omega⟩
      have := drop_nil hd
      have he' : out = a.filter (cov b) ++ b.filter (cov a) := by simpa using he
      subst he'
      simp only [scope_Common_L3, show ¬ ((i : Int) < b.length) by omega, decide_false, Bool.false_eq_true, if_false, scope_Sorted_eq _ hbo.1, Option.bind_some, common]
    | cons x r ih =>
      intro i n out hd hi ho hn he
      obtain ⟨n, rfl⟩ : ∃ k, n = k + 1 := ⟨n - 1, by simp at hn; omega⟩
      obtain ⟨h1, h2, h3⟩ := drop_more hd
      have hlt := drop_lt hd
      have hf : fitL out.length ([x] : List Str).length = true := by simp [fitL]; omega
      simp only [scope_Common_L3, show ((i : Int) < b.length) by omega, decide_true, if_true, idx_n, h2, Option.bind_some, scope_covered_eq x a (hb.sm.at h2) ha.sm, hf, chk_true, scope_Common_B4, w64n (show i < 9223372036854775807 by omega)]
      rw [List.filter_cons] at he
      by_cases hc : cov a x = true
      · rw [if_pos hc] at he
        rw [if_pos hc]
        exact ih (i + 1) n _ h3 (by omega) (by simp; omega) (by simp at hn; omega) (by rw [List.append_assoc]; exact he)
      · rw [if_neg hc] at he
        rw [if_neg hc]
        exact ih (i + 1) n _ h3 (by omega) (by omega) (by simp at hn; omega) he
  have key : ∀ (r : List Str) (i n : Nat) (out : List Str), a.drop i = r → i ≤ a.length → out.length ≤ 0 + i → r.length < n → out ++ r.filter (cov b) = a.filter (cov b) →
      scope_Common_L1 n a b out a (a.length : Int) (i : Int) = some (common a b) := by
    intro r
    induction r with
    | nil =>
      intro i n out hd hi ho hn he
      obtain ⟨n, rfl⟩ : ∃ k, n = k + 1 := ⟨n - 1, by simp at hn; omega⟩
      have := drop_nil hd
      have he' : out = a.filter (cov b) := by simpa using he
      subst he'
      have hin : scope_Common_L3 (scope_Common_L1 n) fuel a (a.filter (cov b)) b (b.length : Int) 0 = some (common a b) := inner (scope_Common_L1 n) b 0 fuel (a.filter (cov b)) rfl (by omega) (Nat.le_trans (List.length_filter_le _ _) (by omega)) (by unfold fuel; omega) rfl
      simp only [scope_Common_L1, show ¬ ((i : Int) < a.length) by omega, decide_false, Bool.false_eq_true, if_false, hin]
    | cons x r ih =>
      intro i n out hd hi ho hn he
      obtain ⟨n, rfl⟩ : ∃ k, n = k + 1 := ⟨n - 1, by simp at hn; omega⟩
      obtain ⟨h1, h2, h3⟩ := drop_more hd
      have hlt := drop_lt hd
      have hf : fitL out.length ([x] : List Str).length = true := by simp [fitL]; omega
      simp only [scope_Common_L1, show ((i : Int) < a.length) by omega, decide_true, if_true, idx_n, h2, Option.bind_some, scope_covered_eq x b (ha.sm.at h2) hb.sm, hf, chk_true, scope_Common_B2, w64n (show i < 9223372036854775807 by omega)]
      rw [List.filter_cons] at he
      by_cases hc : cov b x = true
      · rw [if_pos hc] at he
        rw [if_pos hc]
        exact ih (i + 1) n _ h3 (by omega) (by simp; omega) (by simp at hn; omega) (by rw [List.append_assoc]; exact he)
      · rw [if_neg hc] at he
        rw [if_neg hc]
        exact ih (i + 1) n _ h3 (by omega) (by omega) (by simp at hn; omega) he
  have := key a 0 fuel [] rfl (by omega) (by simp) (by unfold fuel; omega) rfl
  simpa [scope_Common] using this
theorem ref29_Common_eq (a b : List Str) (ha : sm2 a) (hb : sm2 b) : ref29_Common a b = some (common a b) := by
  have h200 := ha.1
  have hb200 := hb.1
  have hbo := sm_both (sm2_filter ha (cov b)) (sm2_filter hb (cov a))
  have inner : ∀ (r0 : List Str → List Str → List Str → Int → Option (List Str)) (r : List Str) (i n : Nat) (out : List Str), b.drop i = r → i ≤ b.length → out.length ≤ a.length + i → r.length < n → out ++ r.filter (cov a) = a.filter (cov b) ++ b.filter (cov a) →
      ref29_Common_L3 r0 n a b out (i : Int) = some (common a b) := by
    intro r0
    intro r
    induction r with
    | nil =>
      intro i n out hd hi ho hn he
      obtain ⟨n, rfl⟩ : ∃ k, n = k + 1 := ⟨n - 1, by simp at hn; omega⟩
      have := drop_nil hd
      have he' : out = a.filter (cov b) ++ b.filter (cov a) := by simpa using he
      subst he'
      simp only [ref29_Common_L3, show ¬ ((i : Int) < b.length) by omega, decide_false, Bool.false_eq_true, if_false, ref29_Sorted_eq _ hbo.1 hbo.2, Option.bind_some, common]
    | cons x r ih =>
      intro i n out hd hi ho hn he
      obtain ⟨n, rfl⟩ : ∃ k, n = k + 1 := ⟨n - 1, by simp at hn; omega⟩
      obtain ⟨h1, h2, h3⟩ := drop_more hd
      have hlt := drop_lt hd
      have hf : fitL out.length ([x] : List Str).length = true := by simp [fitL]; omega
      simp only [ref29_Common_L3, show ((i : Int) < b.length) by omega, decide_true, if_true, idx_n, h2, Option.bind_some, ref29_covers_eq a x ha.sm (hb.sm.at h2), hf, chk_true, ref29_Common_B4, w64n (show i < 9223372036854775807 by omega)]
      rw [List.filter_cons] at he
      by_cases hc : cov a x = true
      · rw [if_pos hc] at he
        rw [if_pos hc]
        exact ih (i + 1) n _ h3 (by omega) (by simp; omega) (by simp at hn; omega) (by rw [List.append_assoc]; exact he)
      · rw [if_neg hc] at he
        rw [if_neg hc]
        exact ih (i + 1) n _ h3 (by omega) (by omega) (by simp at hn; omega) he
  have key : ∀ (r : List Str) (i n : Nat) (out : List Str), a.drop i = r → i ≤ a.length → out.length ≤ 0 + i → r.length < n → out ++ r.filter (cov b) = a.filter (cov b) →
      ref29_Common_L1 n a b out (i : Int) = some (common a b) := by
    intro r
    induction r with
    | nil =>
      intro i n out hd hi ho hn he
      obtain ⟨n, rfl⟩ : ∃ k, n = k + 1 := ⟨n - 1, by simp at hn; omega⟩
      have := drop_nil hd
      have he' : out = a.filter (cov b) := by simpa using he
      subst he'
      have hin : ref29_Common_L3 (ref29_Common_L1 n) fuel a b (a.filter (cov b)) 0 = some (common a b) := inner (ref29_Common_L1 n) b 0 fuel (a.filter (cov b)) rfl (by omega) (Nat.le_trans (List.length_filter_le _ _) (by omega)) (by unfold fuel; omega) rfl
      simp only [ref29_Common_L1, show ¬ ((i : Int) < a.length) by omega, decide_false, Bool.false_eq_true, if_false, hin]
    | cons x r ih =>
      intro i n out hd hi ho hn he
      obtain ⟨n, rfl⟩ : ∃ k, n = k + 1 := ⟨n - 1, by simp at hn; omega⟩
      obtain ⟨h1, h2, h3⟩ := drop_more hd
      have hlt := drop_lt hd
      have hf : fitL out.length ([x] : List Str).length = true := by simp [fitL]; omega
      simp only [ref29_Common_L1, show ((i : Int) < a.length) by omega, decide_true, if_true, idx_n, h2, Option.bind_some, ref29_covers_eq b x hb.sm (ha.sm.at h2), hf, chk_true, ref29_Common_B2, w64n (show i < 9223372036854775807 by omega)]
      rw [List.filter_cons] at he
      by_cases hc : cov b x = true
      · rw [if_pos hc] at he
        rw [if_pos hc]
        exact ih (i + 1) n _ h3 (by omega) (by simp; omega) (by simp at hn; omega) (by rw [List.append_assoc]; exact he)
      · rw [if_neg hc] at he
        rw [if_neg hc]
        exact ih (i + 1) n _ h3 (by omega) (by omega) (by simp at hn; omega) he
  have := key a 0 fuel [] rfl (by omega) (by simp) (by unfold fuel; omega) rfl
  simpa [ref29_Common] using this
/-! ### the laws of one scope within another -/
theorem pre_iff {a b : Str} : pre a b = true ↔ (a ++ [46]) <+: b := by
  unfold pre
  simp only [Bool.and_eq_true, decide_eq_true_eq, beq_iff_eq]
  rw [List.prefix_iff_eq_take]
  simp only [List.length_append, List.length_singleton]
  constructor
  · rintro ⟨_, h⟩; exact h.symm
  · intro h
    refine ⟨?_, h.symm⟩
    have := congrArg List.length h
    simp at this; omega
theorem imp_iff {a b : Str} : imp a b = true ↔ valid a = true ∧ valid b = true ∧ (a = b ∨ (a ++ [46]) <+: b) := by
  unfold imp
  simp only [Bool.and_eq_true, Bool.or_eq_true, beq_iff_eq, pre_iff, and_assoc]
theorem imp_refl {a : Str} (h : valid a = true) : imp a a = true := imp_iff.2 ⟨h, h, .inl rfl⟩
theorem imp_self (a : Str) : imp a a = valid a := by unfold imp; simp
theorem imp_trans {a b c : Str} (h : imp a b = true) (h' : imp b c = true) : imp a c = true := by
  rw [imp_iff] at *
  obtain ⟨h1, h2, h3⟩ := h
  obtain ⟨_, h5, h6⟩ := h'
  refine ⟨h1, h5, ?_⟩
  rcases h3 with rfl | h3
  · exact h6
  · rcases h6 with rfl | h6
    · exact .inr h3
    · exact .inr (h3.trans ((List.prefix_append b [46]).trans h6))
theorem imp_len {a b : Str} (h : imp a b = true) (hne : a ≠ b) : a.length < b.length := by
  obtain ⟨_, _, h3⟩ := imp_iff.1 h
  have := (h3.resolve_left hne).length_le
  simp at this; omega
theorem imp_antisymm {a b : Str} (h : imp a b = true) (h' : imp b a = true) : a = b := by
  by_cases e : a = b
  · exact e
  · have := imp_len h e; have := imp_len h' (Ne.symm e); omega
theorem imp_comparable {t u s : Str} (h : imp t s = true) (h' : imp u s = true) : imp t u = true ∨ imp u t = true := by
  obtain ⟨h1, h2, h3⟩ := imp_iff.1 h
  obtain ⟨g1, g2, g3⟩ := imp_iff.1 h'
  rcases h3 with rfl | h3
  · exact .inr h'
  · rcases g3 with rfl | g3
    · exact .inl h
    · have key : ∀ {t u : Str}, valid t = true → valid u = true → (t ++ [46]) <+: s → (u ++ [46]) <+: s → t.length ≤ u.length → imp t u = true := by
        intro t u ht hu p q hl
        have hp := List.prefix_of_prefix_length_le p q (by simpa using hl)
        refine imp_iff.2 ⟨ht, hu, ?_⟩
        rcases Nat.lt_or_ge t.length u.length with h | h
        · exact .inr (List.prefix_of_prefix_length_le hp (List.prefix_append u [46]) (by simp; omega))
        · have e := hp.eq_of_length (by simp; omega)
          exact .inl (List.append_cancel_right e)
      rcases Nat.le_total t.length u.length with h | h
      · exact .inl (key h1 g1 h3 g3 h)
      · exact .inr (key g1 h1 g3 h3 h)
theorem cov_iff {l : List Str} {s : Str} : cov l s = true ↔ ∃ t ∈ l, imp t s = true := by simp [cov]
theorem least_iff {l : List Str} {x : Str} : least l x = true ↔ valid x = true ∧ ∀ t ∈ l, imp t x = true → t = x := by
  unfold least
  simp only [Bool.and_eq_true, List.all_eq_true, Bool.or_eq_true, beq_iff_eq, Bool.not_eq_true']
  constructor
  · rintro ⟨h, h'⟩; exact ⟨h, fun t ht hi => (h' t ht).resolve_right (by simp [hi])⟩
  · rintro ⟨h, h'⟩
    refine ⟨h, fun t ht => ?_⟩
    cases hi : imp t x with
    | false => exact .inr rfl
    | true => exact .inl (h' t ht hi)
theorem least_under {l : List Str} {s : Str} : ∀ (n : Nat) (t : Str), t.length ≤ n → t ∈ l → imp t s = true → ∃ u, u ∈ l ∧ imp u s = true ∧ least l u = true := by
  intro n
  induction n with
  | zero =>
    intro t h ht hi
    have := (valid_len (imp_iff.1 hi).1).1; omega
  | succ n ih =>
    intro t h ht hi
    by_cases hl : least l t = true
    · exact ⟨t, ht, hi, hl⟩
    · rw [least_iff] at hl
      have hv := (imp_iff.1 hi).1
      have : ∃ u ∈ l, imp u t = true ∧ u ≠ t := by
        refine Classical.byContradiction fun hn => hl ⟨hv, fun u hu hi => Classical.byContradiction fun he => hn ⟨u, hu, hi, he⟩⟩
      obtain ⟨u, hu, h1, h2⟩ := this
      exact ih u (by have := imp_len h1 h2; omega) hu (imp_trans h1 hi)
theorem cov_sorted (l : List Str) (s : Str) : cov (sorted l) s = cov l s := by
  rw [Bool.eq_iff_iff, cov_iff, cov_iff]
  constructor
  · rintro ⟨t, ht, hi⟩; exact ⟨t, ((mem_sorted l t).1 ht).1, hi⟩
  · rintro ⟨t, ht, hi⟩
    obtain ⟨u, h1, h2, h3⟩ := least_under t.length t (Nat.le_refl _) ht hi
    exact ⟨u, (mem_sorted l u).2 ⟨h1, h3⟩, h2⟩
theorem sorted_congr {l m : List Str} (h : ∀ x, x ∈ l ↔ x ∈ m) : sorted l = sorted m := by
  refine asc_unique (sorted_asc l) (sorted_asc m) fun x => ?_
  rw [mem_sorted, mem_sorted, h, least_iff, least_iff]
  simp only [h]
theorem sorted_sorted (l : List Str) : sorted (sorted l) = sorted l := by
  refine asc_unique (sorted_asc _) (sorted_asc l) fun x => ?_
  rw [mem_sorted]
  constructor
  · exact fun h => h.1
  · intro h
    refine ⟨h, ?_⟩
    have h1 := (mem_sorted l x).1 h
    rw [least_iff] at h1 ⊢
    exact ⟨h1.2.1, fun t ht hi => h1.2.2 t ((mem_sorted l t).1 ht).1 hi⟩
theorem common_comm (a b : List Str) : common a b = common b a := sorted_congr fun x => by simp [or_comm]
theorem cov_common (a b : List Str) (s : Str) : cov (common a b) s = (cov a s && cov b s) := by
  unfold common
  rw [cov_sorted, Bool.eq_iff_iff, Bool.and_eq_true, cov_iff, cov_iff, cov_iff]
  constructor
  · rintro ⟨t, ht, hi⟩
    rcases List.mem_append.1 ht with ht | ht
    · obtain ⟨h1, h2⟩ := List.mem_filter.1 ht
      obtain ⟨u, hu, h3⟩ := cov_iff.1 h2
      exact ⟨⟨t, h1, hi⟩, ⟨u, hu, imp_trans h3 hi⟩⟩
    · obtain ⟨h1, h2⟩ := List.mem_filter.1 ht
      obtain ⟨u, hu, h3⟩ := cov_iff.1 h2
      exact ⟨⟨u, hu, imp_trans h3 hi⟩, ⟨t, h1, hi⟩⟩
  · rintro ⟨⟨t, ht, hi⟩, ⟨u, hu, hj⟩⟩
    rcases imp_comparable hi hj with h | h
    · exact ⟨u, List.mem_append.2 (.inr (List.mem_filter.2 ⟨hu, cov_iff.2 ⟨t, ht, h⟩⟩)), hj⟩
    · exact ⟨t, List.mem_append.2 (.inl (List.mem_filter.2 ⟨ht, cov_iff.2 ⟨u, hu, h⟩⟩)), hi⟩
theorem common_within (a b : List Str) : within (common a b) a = true := by
  unfold within
  rw [List.all_eq_true]
  intro x hx
  have h1 := (mem_sorted _ x).1 hx
  have hv := (least_iff.1 h1.2).1
  rcases List.mem_append.1 h1.1 with h | h
  · exact cov_iff.2 ⟨x, (List.mem_filter.1 h).1, imp_refl hv⟩
  · exact (List.mem_filter.1 h).2
theorem minus_covers {a b : List Str} {x : Str} (hx : x ∈ a) (hv : valid x = true) (hb : cov b x = false) : cov (minus a b) x = true := by
  unfold minus
  rw [cov_sorted, cov_iff]
  exact ⟨x, List.mem_filter.2 ⟨hx, by simp [hb]⟩, imp_refl hv⟩
theorem minus_mem {a b : List Str} {x : Str} (hx : x ∈ minus a b) : cov b x = false ∧ cov a x = true := by
  have h1 := (mem_sorted _ x).1 hx
  have hv := (least_iff.1 h1.2).1
  have h2 := List.mem_filter.1 h1.1
  exact ⟨by simpa using h2.2, cov_iff.2 ⟨x, h2.1, imp_refl hv⟩⟩
theorem minus_self (a : List Str) : minus a a = [] := by
  refine List.eq_nil_iff_forall_not_mem.2 fun x hx => ?_
  have := minus_mem hx
  rw [this.1] at this; simp at this

/-! ### back and forth -/
theorem spl_word (w r : Str) (hw : ∀ u ∈ w, (u == 32) = false) : ∀ cur : Str, spl cur (w ++ 32 :: r) = (cur ++ w) :: spl [] r ∧ spl cur w = [cur ++ w] := by
  induction w with
  | nil => intro cur; simp [spl]
  | cons u w ih =>
    intro cur
    have h1 := hw u (List.mem_cons_self)
    have h2 := ih (fun v hv => hw v (List.mem_cons_of_mem _ hv)) (cur ++ [u])
    constructor
    · rw [List.cons_append, show spl cur (u :: (w ++ 32 :: r)) = if u == 32 then cur :: spl [] (w ++ 32 :: r) else spl (cur ++ [u]) (w ++ 32 :: r) from rfl, h1, if_neg (by simp), h2.1]; simp
    · rw [show spl cur (u :: w) = if u == 32 then cur :: spl [] w else spl (cur ++ [u]) w from rfl, h1, if_neg (by simp), h2.2]; simp
theorem valid_nospace {s : Str} (h : valid s = true) : ∀ u ∈ s, (u == 32) = false := by
  have hw := valid_word h
  simp only [word, Bool.and_eq_true, List.all_eq_true] at hw
  intro u hu
  have := hw.1 u hu
  cases hc : u == 32 with
  | false => rfl
  | true => rw [eq_of_beq hc] at this; exact absurd this (by decide)
theorem spl_join : ∀ (l : List Str) (x : Str), (∀ s ∈ x :: l, valid s = true) → spl [] (Lib.join (x :: l) [32]) = x :: l
  | [], x, h => by
    rw [Lib.join_one, (spl_word x [] (valid_nospace (h x (List.mem_cons_self))) []).2]; rfl
  | y :: l, x, h => by
    have e : Lib.join (x :: y :: l) [32] = x ++ 32 :: Lib.join (y :: l) [32] := by
      rw [Lib.join_cons, Lib.join_cons]; simp [Lib.joinTail]
    rw [e, (spl_word x _ (valid_nospace (h x (List.mem_cons_self))) []).1, spl_join l y fun s hs => h s (List.mem_cons_of_mem _ hs)]; rfl
theorem join_spl (s : Str) : ∀ cur : Str, Lib.join (spl cur s) [32] = cur ++ s := by
  have hne : ∀ (s cur : Str), spl cur s ≠ [] := by
    intro s
    induction s with
    | nil => intro cur; simp [spl]
    | cons u r ih => intro cur; unfold spl; split <;> simp [ih]
  induction s with
  | nil => intro cur; simp [spl, Lib.join_one]
  | cons u r ih =>
    intro cur
    rw [show spl cur (u :: r) = if u == 32 then cur :: spl [] r else spl (cur ++ [u]) r from rfl]
    cases hu : u == 32 with
    | false => simp [ih]
    | true =>
      have hu' := eq_of_beq hu
      subst hu'
      obtain ⟨y, l, hy⟩ : ∃ y l, spl [] r = y :: l := by
        cases h : spl [] r with
        | nil => exact absurd h (hne r [])
        | cons y l => exact ⟨y, l, rfl⟩
      have e := ih []
      rw [if_pos rfl, hy]
      rw [hy] at e
      have e2 : Lib.join (cur :: y :: l) [32] = cur ++ 32 :: Lib.join (y :: l) [32] := by
        rw [Lib.join_cons, Lib.join_cons]; simp [Lib.joinTail]
      rw [e2, e]; rfl
theorem parse_text {l : List Str} (h : ck l = 0) : textS l = (Lib.join l [32], 0) ∧ parseS (Lib.join l [32]) = (l, 0) := by
  have h1 := ck_ok h
  refine ⟨by simp [textS, h], ?_⟩
  cases l with
  | nil => simp [Lib.join_nil, parseS]
  | cons x r =>
    have hv := ckL_ok [] h1.2
    have hs := spl_join r x hv
    have hne : (Lib.join (x :: r) [32] == []) = false := by
      have := (valid_len (hv x (List.mem_cons_self))).1
      rw [Lib.join_cons, beq_eq_false_iff_ne]
      intro e
      have := congrArg List.length e
      rw [List.length_append, List.length_nil] at this; omega
    unfold parseS
    rw [hne, hs]; simp [h]
theorem text_parse {s : Str} (h : (parseS s).2 = 0) : textS (parseS s).1 = (s, 0) := by
  unfold parseS at h ⊢
  cases hs : s == [] with
  | true => rw [eq_of_beq hs]; rfl
  | false =>
    simp only [hs, Bool.false_eq_true, if_false] at h ⊢
    by_cases hc : ck (spl [] s) = 0
    · simp only [hc]
      have := (parse_text hc).1
      rw [join_spl] at this
      simpa using this
    · have : (ck (spl [] s) != 0) = true := by simpa using hc
      rw [this, if_pos rfl] at h
      exact absurd h hc
/-! ### the statements -/
theorem few_sm {l : List Str} (h : l.length ≤ 20 ∧ ∀ s ∈ l, s.length ≤ 200) : sm2 l := ⟨by omega, fun s hs => by have := h.2 s hs; unfold fits; omega⟩
/-- at the gate: too much, or short lists -/
theorem gate {l : List Str} (hl : fits l) : law29_few l = some false ∨ (law29_few l = some true ∧ l.length ≤ 20 ∧ ∀ s ∈ l, s.length ≤ 200) := by
  obtain ⟨b, h1, h2⟩ := few_ok l hl
  cases b with
  | false => exact .inl h1
  | true => exact .inr ⟨h1, h2 rfl⟩
theorem checks_true (l : List Str) (s : Str) (hl : fits l) : law29_ScopeChecks l s = some true := by
  unfold law29_ScopeChecks
  rcases gate hl with h | ⟨h, h2⟩
  · simp [h, awake29]
  · rw [h, Option.bind_some]
    by_cases hs : (s.length : Int) > 2000
    · simp [hs, awake29]
    · have hf := (few_sm h2).2
      have hp := spl_parts (s := s) [] (N := 2000) (by simp; omega)
      have hfp : fits (parseS s).1 := by
        unfold parseS fits
        split
        · simp
        · split
          · simp
          · have := hp.2; simp; omega
      simp only [Bool.not_true, Bool.false_or, hs, decide_false, Bool.false_eq_true, if_false, scope_Text_eq l hf, ref29_Text_eq l hf, scope_Parse_eq s (by omega), ref29_Parse_eq s (by omega), scope_Check_eq l hf, ref29_Check_eq l hf, Option.bind_some, beq_self_eq_true, Bool.and_self, if_true, ref03_Same_eq _ _ hfp, awake29]
theorem sorts_true (a b : List Str) (s t : Str) (ha : fits a) (hb : fits b) (hs : fits s) (ht : fits t) : law29_ScopeSorts a b s t = some true := by
  unfold law29_ScopeSorts
  rcases gate ha with h | ⟨h, h2⟩
  · simp [h, awake29]
  · rcases gate hb with g | ⟨g, g2⟩
    · simp [h, g, awake29]
    · have h3 := (few_sm h2).sm
      have g3 := (few_sm g2).sm
      have hso : fits (sorted a) := by have := (sorted_sm h3).1; unfold fits; omega
      rw [h, g, Option.bind_some]
      by_cases hq : (decide ((s.length : Int) > 200) || decide ((t.length : Int) > 200)) = true
      · simp only [Bool.not_true, Bool.false_eq_true, if_false, Option.bind_some, Bool.false_or, hq, if_true, awake29]
      · simp only [Bool.not_true, Bool.false_eq_true, if_false, Option.bind_some, Bool.false_or, hq, scope_Sorted_eq a h3, ref29_Sorted_eq a h3 (by omega), ref03_Same_eq _ _ hso, beq_self_eq_true, if_true, scope_Implies_eq s t hs ht, ref29_Implies_eq s t hs ht, scope_Within_eq a b h3 g3, ref29_Within_eq a b h3 g3, awake29]
theorem combines_true (a b : List Str) (ha : fits a) (hb : fits b) : law29_ScopeCombines a b = some true := by
  unfold law29_ScopeCombines
  rcases gate ha with h | ⟨h, h2⟩
  · simp [h, awake29]
  · rcases gate hb with g | ⟨g, g2⟩
    · simp [h, g, awake29]
    · have h3 := few_sm h2
      have g3 := few_sm g2
      have hc : fits (common a b) := by
        have hbo := sm_both (sm2_filter h3 (cov b)) (sm2_filter g3 (cov a))
        have := (sorted_sm hbo.1).1
        unfold fits common; omega
      have hm : fits (minus a b) := by have := (sorted_sm (sm_filter h3.sm fun x => !cov b x)).1; unfold fits minus; omega
      simp only [h, g, Option.bind_some, Bool.not_true, Bool.false_eq_true, if_false, scope_Common_eq a b h3 g3, ref29_Common_eq a b h3 g3, ref03_Same_eq _ _ hc, beq_self_eq_true, if_true, scope_Minus_eq a b h3 g3, ref29_Minus_eq a b h3 g3, ref03_Same_eq _ _ hm, awake29]
theorem back_true (l : List Str) (s : Str) (hl : fits l) : law29_ScopeBack l s = some true := by
  unfold law29_ScopeBack
  rcases gate hl with h | ⟨h, h2⟩
  · simp [h, awake29]
  · rw [h, Option.bind_some]
    by_cases hs : (s.length : Int) > 2000
    · simp [hs, awake29]
    · have hf := (few_sm h2).2
      have hp := spl_parts (s := s) [] (N := 2000) (by simp; omega)
      have hfp : fitsAll (parseS s).1 := by
        unfold parseS
        split
        · intro x hx; cases hx
        · split
          · intro x hx; cases hx
          · intro x hx; have := hp.1 x hx; unfold fits; omega
      have B1 : law29_ScopeBack_B1 s = some true := by
        simp only [law29_ScopeBack_B1, law29_ScopeBack_B2, scope_Parse_eq s (by omega), Option.bind_some, awake29]
        by_cases h0 : (parseS s).2 = 0
        · rw [scope_Text_eq _ hfp, text_parse h0, h0]; simp
        · rw [if_neg (by simpa using h0)]
      simp only [Bool.not_true, Bool.false_or, hs, decide_false, Bool.false_eq_true, if_false, scope_Text_eq l hf, scope_Check_eq l hf, Option.bind_some, B1]
      by_cases hc : ck l = 0
      · have hpt := parse_text hc
        have hj := join_len (ck_ok hc).1 fun s hs => (word_len (valid_word (ckL_ok [] (ck_ok hc).2 s hs))).2
        rw [hpt.1, hc]
        simp [scope_Parse_eq _ hj, hpt.2, ref03_Same_eq l l hl]
      · have ht : (textS l).2 = ck l := by
          unfold textS
          rw [if_pos (by simpa using hc)]
        rw [ht]
        simp [hc]
theorem order_true (a b c : Str) : law29_ScopeOrder a b c = some true := by
  unfold law29_ScopeOrder
  rcases gate (l := [a, b, c]) (by simp [fits]) with h | ⟨h, _, h2⟩
  · simp [h, awake29]
  · have ha : fits a := by have := h2 a (by simp); unfold fits; omega
    have hb : fits b := by have := h2 b (by simp); unfold fits; omega
    have hc : fits c := by have := h2 c (by simp); unfold fits; omega
    have hfa : fitsAll [a] := fun s hs => by rw [List.mem_singleton] at hs; subst hs; exact ha
    have e1 : ck [a] = if valid a then 0 else 5 := by cases hv : valid a <;> simp [ck, ckL, hv]
    simp only [h, Option.bind_some, Bool.not_true, Bool.false_eq_true, if_false, scope_Implies_eq a b ha hb, scope_Implies_eq b c hb hc, scope_Implies_eq a c ha hc, scope_Implies_eq b a hb ha, scope_Implies_eq a a ha ha, scope_Check_eq [a] hfa, awake29, imp_self, e1]
    cases h1 : imp a b with
    | false => cases valid a <;> simp
    | true =>
      have e2 : imp b c = true → imp a c = true := imp_trans h1
      have e3 : imp b a = true → a = b := imp_antisymm h1
      cases h4 : imp b c with
      | false =>
        cases h5 : imp b a with
        | false => cases valid a <;> simp
        | true => cases valid a <;> simp [e3 h5]
      | true =>
        rw [e2 h4]
        cases h5 : imp b a with
        | false => cases valid a <;> simp
        | true => cases valid a <;> simp [e3 h5]
theorem covered_eq (l : List Str) (s : Str) (hl : sm l) (hs : fits s) : law29_covered l s = some (cov l s) := by
  have h1 : sm [s] := ⟨by simp, fun x hx => by rw [List.mem_singleton] at hx; subst hx; exact hs⟩
  simp [law29_covered, scope_Within_eq [s] l h1 hl, within]
theorem covered_true (a b : List Str) (s : Str) (ha : fits a) (hb : fits b) : law29_ScopeCovered a b s = some true := by
  unfold law29_ScopeCovered
  rcases gate ha with h | ⟨h, h2⟩
  · simp [h, awake29]
  · rcases gate hb with g | ⟨g, g2⟩
    · simp [h, g, awake29]
    · have h3 := few_sm h2
      have g3 := few_sm g2
      rw [h, g, Option.bind_some]
      by_cases hq : ((s.length : Int) > 200)
      · simp [hq, awake29]
      · have hs : fits s := by unfold fits; omega
        have hso := sorted_sm2 h3
        have hbo := sm_both (sm2_filter h3 (cov b)) (sm2_filter g3 (cov a))
        have hco : sm (common a b) := sorted_sm hbo.1
        have hfs : fits (sorted a) := by have := hso.1; unfold fits; omega
        have hfs2 : fits (sorted (sorted a)) := by rw [sorted_sorted]; exact hfs
        have hfc : fits (common a b) := by have := hco.1; unfold fits; omega
        have hw : within (common a b) b = true := by rw [common_comm]; exact common_within b a
        simp only [Bool.not_true, Bool.false_eq_true, if_false, Option.bind_some, Bool.false_or, hq, decide_false, scope_Sorted_eq a h3.sm, scope_Common_eq a b h3 g3]
        have fin : ∀ (n i : Nat), (sorted a).length ≤ i → law29_ScopeCovered_L1 (n + 1) a b s (sorted a) (common a b) (i : Int) = some true := by
          intro n i hi
          simp only [law29_ScopeCovered_L1, show ¬ ((i : Int) < (sorted a).length) by omega, decide_false, Bool.false_eq_true, if_false, covered_eq _ s hso.sm hs, covered_eq _ s h3.sm hs, covered_eq _ s g3.sm hs, covered_eq _ s hco hs, Option.bind_some, cov_sorted, beq_self_eq_true, if_true, scope_Sorted_eq _ hso.sm, sorted_sorted, ref03_Same_eq _ _ hfs, cov_common, scope_Common_eq b a g3 h3, ref03_Same_eq _ _ hfc, common_comm b a, scope_Within_eq _ a hco h3.sm, scope_Within_eq _ b hco g3.sm, common_within a b, hw, awake29]
          cases cov a s <;> cases cov b s <;> simp
        have key : ∀ (r : List Str) (i n : Nat) (p : Str), (sorted a).drop i = p :: r → r.length < n → law29_ScopeCovered_L1 n a b s (sorted a) (common a b) ((i + 1 : Nat) : Int) = some true := by
          have h1000 := hso.1
          intro r
          induction r with
          | nil =>
            intro i n p hd hn
            obtain ⟨n, rfl⟩ : ∃ k, n = k + 1 := ⟨n - 1, by simp at hn; omega⟩
            exact fin n (i + 1) (drop_nil (drop_more hd).2.2)
          | cons x r ih =>
            intro i n p hd hn
            obtain ⟨n, rfl⟩ : ∃ k, n = k + 1 := ⟨n - 1, by simp at hn; omega⟩
            obtain ⟨_, k2, k3⟩ := drop_more hd
            obtain ⟨_, l2, l3⟩ := drop_more k3
            have hlt := drop_lt k3
            have e : IntKind.i64.wrap (((i + 1 : Nat) : Int) - 1) = (i : Int) := by rw [w64 (by omega) (by omega)]; omega
            have hpx : p < x := by
              have h1 : asc ((sorted a).drop i) := (sorted_asc a).sublist (List.drop_sublist _ _)
              rw [hd] at h1
              exact (List.pairwise_cons.1 h1).1 x (List.mem_cons_self)
            have hlt2 : sLt p x = true := by rw [sLt_eq]; exact decide_eq_true hpx
            rw [law29_ScopeCovered_L1, e]
            simp only [show (((i + 1 : Nat) : Int) < (sorted a).length) by omega, decide_true, if_true, idx_n, k2, l2, Option.bind_some, hlt2, Bool.not_true, Bool.false_eq_true, if_false, w64n (show i + 1 < 9223372036854775807 by omega), ih (i + 1) n x k3 (by simp at hn; omega)]
        cases hsa : sorted a with
        | nil =>
          have := fin 18446744073709551615 1 (by rw [hsa]; simp)
          rw [hsa] at this
          exact this
        | cons p r =>
          have := key r 0 fuel p (by rw [hsa]; rfl) (by have := hso.1; rw [hsa] at this; simp at this; unfold fuel; omega)
          rw [hsa] at this
          exact this
theorem parts_true (a b : List Str) (ha : fits a) (hb : fits b) : law29_ScopeParts a b = some true := by
  unfold law29_ScopeParts
  rcases gate ha with h | ⟨h, h2⟩
  · simp [h, awake29]
  · rcases gate hb with g | ⟨g, g2⟩
    · simp [h, g, awake29]
    · have h3 := few_sm h2
      have g3 := few_sm g2
      have hm2 : sm2 (minus a b) := sorted_sm2 (sm2_filter h3 _)
      have hm := hm2.sm
      have h200 := h3.1
      have m200 := hm2.1
      simp only [h, g, Option.bind_some, Bool.not_true, Bool.false_eq_true, if_false, scope_Minus_eq a b h3 g3]
      have inner : ∀ (r0 : List Str → List Str → List Str → Int → Option Bool) (r : List Str) (i n : Nat), (minus a b).drop i = r → i ≤ (minus a b).length → r.length < n → law29_ScopeParts_L2 r0 n a b (minus a b) (i : Int) = some true := by
        intro r0 r
        induction r with
        | nil =>
          intro i n hd hi hn
          obtain ⟨n, rfl⟩ : ∃ k, n = k + 1 := ⟨n - 1, by simp at hn; omega⟩
          have := drop_nil hd
          simp [law29_ScopeParts_L2, show ¬ ((i : Int) < (minus a b).length) by omega, scope_Minus_eq a a h3 h3, minus_self, awake29]
        | cons x r ih =>
          intro i n hd hi hn
          obtain ⟨n, rfl⟩ : ∃ k, n = k + 1 := ⟨n - 1, by simp at hn; omega⟩
          obtain ⟨k1, k2, k3⟩ := drop_more hd
          have hlt := drop_lt hd
          have hx := minus_mem (List.mem_of_getElem? k2)
          simp only [law29_ScopeParts_L2, show ((i : Int) < (minus a b).length) by omega, decide_true, if_true, idx_n, k2, Option.bind_some, covered_eq b x g3.sm (hm.at k2), covered_eq a x h3.sm (hm.at k2), hx.1, hx.2, Bool.false_eq_true, if_false, Bool.not_true, w64n (show i < 9223372036854775807 by omega), ih (i + 1) n k3 (by omega) (by simp at hn; omega)]
      have key : ∀ (r : List Str) (i n : Nat), a.drop i = r → i ≤ a.length → r.length < n → law29_ScopeParts_L1 n a b (minus a b) (i : Int) = some true := by
        intro r
        induction r with
        | nil =>
          intro i n hd hi hn
          obtain ⟨n, rfl⟩ : ∃ k, n = k + 1 := ⟨n - 1, by simp at hn; omega⟩
          have := drop_nil hd
          have hin := inner (law29_ScopeParts_L1 n) (minus a b) 0 fuel rfl (by omega) (by unfold fuel; omega)
          simp only [law29_ScopeParts_L1, show ¬ ((i : Int) < a.length) by omega, decide_false, Bool.false_eq_true, if_false]
          exact hin
        | cons x r ih =>
          intro i n hd hi hn
          obtain ⟨n, rfl⟩ : ∃ k, n = k + 1 := ⟨n - 1, by simp at hn; omega⟩
          obtain ⟨k1, k2, k3⟩ := drop_more hd
          have hlt := drop_lt hd
          have hx := h3.sm.at k2
          simp only [law29_ScopeParts_L1, show ((i : Int) < a.length) by omega, decide_true, if_true, idx_n, k2, Option.bind_some, covered_eq b x g3.sm hx, covered_eq _ x hm hx, scope_Implies_eq x x hx hx, imp_self, w64n (show i < 9223372036854775807 by omega), ih (i + 1) n k3 (by omega) (by simp at hn; omega)]
          cases hv : valid x with
          | false => simp
          | true =>
            cases hc : cov b x with
            | true => simp
            | false => simp [minus_covers (List.mem_of_getElem? k2) hv hc]
      exact key a 0 fuel rfl (by omega) (by unfold fuel; omega)
end Go.KW.S
