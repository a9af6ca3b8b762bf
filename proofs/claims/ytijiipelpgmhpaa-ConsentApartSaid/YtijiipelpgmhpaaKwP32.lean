/- Own work: a part of the proofs of this seat. -/
import Derived.Test.YtijiipelpgmhpaaKwPlain
import Derived.Test.YtijiipelpgmhpaaKwMapP
import Derived.Test.YtijiipelpgmhpaaKwIS
import Derived.KernelRfl
import Derived.Lib.IndexMore
import Derived.Lib.CountLaws
import Derived.Laws.RangeString
import Derived.Laws.RangeAny
set_option linter.unusedVariables false
set_option linter.unusedSimpArgs false
namespace Go.KW.S
open Go Go.KW
/-! ### words -/
def isW (c : Int) : Bool := (((decide (c ≥ 65) && decide (c ≤ 90)) || (decide (c ≥ 97) && decide (c ≤ 122))) || (decide (c ≥ 48) && decide (c ≤ 57))) || c == 45 || c == 95 || c == 46 || c == 58
def word (s : Str) : Bool := s.all (fun u => isW u.toNat) && (decide (1 ≤ s.length) && decide (s.length ≤ 64))

theorem fold_Word_1_eq (c : Int) : fold_Word_1 c = some (isW c) := by
  simp only [fold_Word_1, fold_letter, fold_upper, fold_digit, isW, Option.bind_some]
  cases (decide (c ≥ 65) && decide (c ≤ 90)) <;> cases (decide (c ≥ 97) && decide (c ≤ 122)) <;> simp
theorem fold_made_eq (s : Str) (hs : fits s) : fold_made__Word_1 s = some (word s) := by
  have key : ∀ (r : Str) (i n : Nat), s.drop i = r → i ≤ s.length → r.length < n →
      fold_made__Word_1_L1 n s (s.length : Int) (i : Int) = some (r.all (fun u => isW u.toNat) && (decide (1 ≤ s.length) && decide (s.length ≤ 64))) := by
    intro r
    induction r with
    | nil =>
      intro i n hd hi hn
      obtain ⟨n, rfl⟩ : ∃ k, n = k + 1 := ⟨n - 1, by simp at hn; omega⟩
      have := drop_nil hd
      simp only [fold_made__Word_1_L1, show ¬ ((i : Int) < s.length) by omega, decide_false, Bool.false_eq_true, if_false, List.all_nil, Bool.true_and, Option.some.injEq]
      rw [Bool.eq_iff_iff]; cases s <;> simp <;> omega
    | cons u r ih =>
      intro i n hd hi hn
      obtain ⟨n, rfl⟩ : ∃ k, n = k + 1 := ⟨n - 1, by simp at hn; omega⟩
      obtain ⟨h1, h2, h3⟩ := drop_more hd
      have hlt := drop_lt hd
      have := hs; unfold fits at this
      simp only [fold_made__Word_1_L1, show ((i : Int) < s.length) by omega, decide_true, if_true, inb_n, h1, chk_true, byteAt_some h2, fold_Word_1_eq, Option.bind_some, w64n (show i < 9223372036854775807 by omega), List.all_cons]
      cases isW u.toNat with
      | false => simp
      | true => simpa using ih (i + 1) n h3 (by omega) (by simp at hn; omega)
  exact key s 0 fuel rfl (by omega) (fuel_pos hs)
theorem fold_Word_eq (s : Str) (hs : fits s) : fold_Word s = some (word s) := by
  simp [fold_Word, fold_made_eq s hs]

/-- an instant by Rule 6 -/
def lim (t : Int) : Int := gmin (gmax t 0) 1099511627776
theorem lim_range (t : Int) : 0 ≤ lim t ∧ lim t ≤ 1099511627776 := by unfold lim gmin gmax; split <;> split <;> omega
theorem lim_val (t : Int) : lim t = if t < 0 then 0 else if t > 1099511627776 then 1099511627776 else t := by unfold lim gmin gmax; repeat' split <;> omega
/-- two dots in a row -/
def dots : Str → Bool
  | a :: b :: r => (a == 46 && b == 46) || dots (b :: r)
  | _ => false
def valid (s : Str) : Bool := word s && !(s.head? == some 46) && !(s.getLast? == some 46) && !dots s
theorem contains_dots (s : Str) : Lib.contains s [46, 46] = dots s := by
  have key : ∀ s : Str, (decide (0 ≤ Lib.index s [46, 46]) = dots s) ∧ -1 ≤ Lib.index s [46, 46] := by
    intro s
    induction s with
    | nil => exact ⟨rfl, by decide⟩
    | cons a r ih =>
      obtain ⟨ih1, ih2⟩ := ih
      have hi : Lib.index (a :: r) [46, 46] = if ([46, 46] : Str).isPrefixOf (a :: r) then 0 else if Lib.index r [46, 46] == -1 then -1 else Lib.index r [46, 46] + 1 := by
        simp only [Lib.index]
      have hp : ([46, 46] : Str).isPrefixOf (a :: r) = (a == 46 && r.head? == some 46) := by
        cases r with
        | nil => simp [List.isPrefixOf]
        | cons b r => simp [List.isPrefixOf, Bool.beq_comm]
      have hd : dots (a :: r) = ((a == 46 && r.head? == some 46) || dots r) := by
        cases r with
        | nil => simp [dots]
        | cons b r => simp [dots]
      rw [hi, hp, hd, ← ih1]
      cases (a == 46 && r.head? == some 46) with
      | true => simp
      | false =>
        simp only [Bool.false_eq_true, if_false, Bool.false_or]
        by_cases h : Lib.index r [46, 46] = -1
        · rw [h]; simp
        · have h' : (Lib.index r [46, 46] == -1) = false := by simpa using h
          rw [h']
          simp only [Bool.false_eq_true, if_false]
          refine ⟨?_, by omega⟩
          rw [Bool.eq_iff_iff]; simp; omega
  exact (key s).1
theorem u8_eq (u : UInt8) (k : Nat) (hk : k < 256) : ((u.toNat : Int) == (k : Int)) = (u == UInt8.ofNat k) := by
  rw [Bool.eq_iff_iff, beq_iff_eq, beq_iff_eq]
  constructor
  · intro h
    have : u.toNat = k := by omega
    exact UInt8.toNat_inj.1 (by rw [this, UInt8.toNat_ofNat_of_lt' (by simpa using hk)])
  · rintro rfl
    rw [UInt8.toNat_ofNat_of_lt' (by simpa using hk)]
theorem u8_46 (u : UInt8) : ((u.toNat : Int) == 46) = (u == 46) := u8_eq u 46 (by decide)
theorem byteAt_first {s : Str} (h : 1 ≤ s.length) : (byteAt s 0 == 46) = (s.head? == some 46) := by
  cases s with
  | nil => simp at h
  | cons a r =>
    have : byteAt (a :: r) 0 = (a.toNat : Int) := by simp [byteAt]
    rw [this, u8_46]; simp
theorem byteAt_end {s : Str} (h : 1 ≤ s.length) : (byteAt s (((s.length - 1 : Nat) : Int)) == 46) = (s.getLast? == some 46) := by
  have h1 : s[s.length - 1]? = some s[s.length - 1] := List.getElem?_eq_getElem (by omega)
  rw [byteAt_some h1, u8_46, List.getLast?_eq_getElem?, h1]; simp
theorem word_len {s : Str} (h : word s = true) : 1 ≤ s.length ∧ s.length ≤ 64 := by
  simp only [word, Bool.and_eq_true, decide_eq_true_eq] at h; exact h.2
theorem word_fits {s : Str} (h : word s = true) : fits s := by have := word_len h; unfold fits; omega
theorem last_ix {s : Str} (h : 1 ≤ s.length ∧ s.length ≤ 64) : IntKind.i64.wrap ((s.length : Int) - 1) = ((s.length - 1 : Nat) : Int) := by
  rw [w64 (by omega) (by omega)]; omega
theorem inb_0 {n : Nat} (h : 1 ≤ n) : inb 0 n = true := by simp [inb] <;> omega
theorem scope_valid_eq (s : Str) (hs : fits s) : scope_valid s = some (valid s) := by
  unfold scope_valid valid
  rw [fold_Word_eq s hs, Option.bind_some]
  cases hw : word s with
  | false => simp
  | true =>
    have hl := word_len hw
    simp only [if_true, inb_0 hl.1, chk_true, Option.bind_some, bne, byteAt_first hl.1, last_ix hl, Bool.true_and]
    cases s.head? == some 46 with
    | true => simp
    | false =>
      have h2 : inb ((s.length - 1 : Nat) : Int) s.length = true := by rw [inb_n]; simp; omega
      simp only [Bool.not_false, if_true, h2, chk_true, byteAt_end hl.1, Option.bind_some, Bool.true_and]
      cases s.getLast? == some 46 with
      | true => simp
      | false =>
        have h3 : decide (s.length < 4294967281) = true := by simp; omega
        simp only [Bool.not_false, if_true, lib_Contains, h3, chk_true, Option.bind_some, contains_dots, Bool.true_and]
/-- where a string is first found -/
def ixOf (v : Str) : Nat → List Str → Int
  | _, [] => -1
  | i, x :: r => if v == x then i else ixOf v (i + 1) r
theorem slices_Index_eq (l : List Str) (v : Str) (hl : fits l) : slices_Index_string_string l v = some (ixOf v 0 l) := by
  have key : ∀ (r : List Str) (i n : Nat), l.drop i = r → i ≤ l.length → r.length < n →
      slices_Index_string_string_L1 n l v (l.length : Int) (i : Int) = some (ixOf v i r) := by
    intro r
    induction r with
    | nil =>
      intro i n hd hi hn
      obtain ⟨n, rfl⟩ : ∃ k, n = k + 1 := ⟨n - 1, by simp at hn; omega⟩
      have := drop_nil hd
      simp [slices_Index_string_string_L1, show ¬ ((i : Int) < l.length) by omega, ixOf]
    | cons x r ih =>
      intro i n hd hi hn
      obtain ⟨n, rfl⟩ : ∃ k, n = k + 1 := ⟨n - 1, by simp at hn; omega⟩
      obtain ⟨h1, h2, h3⟩ := drop_more hd
      have hlt := drop_lt hd
      have := hl; unfold fits at this
      simp only [slices_Index_string_string_L1, show ((i : Int) < l.length) by omega, decide_true, if_true, idx_n, h2, Option.bind_some, w64n (show i < 9223372036854775807 by omega), ih (i + 1) n h3 (by omega) (by simp at hn; omega), ixOf]
      cases v == x <;> simp
  exact key l 0 fuel rfl (by omega) (fuel_pos hl)
theorem ixOf_pos (v : Str) : ∀ (r : List Str) (i : Nat), decide (ixOf v i r ≥ 0) = r.contains v
  | [], _ => by simp [ixOf]
  | x :: r, i => by
    unfold ixOf
    rw [List.contains_cons]
    cases h : v == x with
    | true => simp
    | false => simpa using ixOf_pos v r (i + 1)
theorem slices_Contains_eq (l : List Str) (v : Str) (hl : fits l) : slices_Contains_string_string l v = some (l.contains v) := by
  simp only [slices_Contains_string_string, slices_Index_eq l v hl, Option.bind_some, ixOf_pos]
/-- the first error of a list of scopes, p being those before -/
def ckL : List Str → List Str → Int
  | _, [] => 0
  | p, x :: r => if !valid x then 5 else if p.contains x then 7 else ckL (p ++ [x]) r
def ck (l : List Str) : Int := if decide ((l.length : Int) > 16) then 3 else ckL [] l
/-- each string can be held -/
def fitsAll (l : List Str) : Prop := ∀ s ∈ l, fits s
theorem fitsAll_at {l : List Str} (h : fitsAll l) {i : Nat} {x : Str} (hx : l[i]? = some x) : fits x := h x (List.mem_of_getElem? hx)
theorem take_len {T : Type} {l : List T} {i : Nat} (h : i < l.length) : (l.take i).length = i := by simp; omega
theorem scope_Check_eq (l : List Str) (hl : fitsAll l) : scope_Check l = some (ck l) := by
  unfold scope_Check ck
  by_cases h16 : (l.length : Int) > 16
  · simp [h16]
  · simp only [h16, decide_false, Bool.false_eq_true, if_false]
    have key : ∀ (r : List Str) (i n : Nat), l.drop i = r → i ≤ l.length → r.length < n → scope_Check_L1 n l l (l.length : Int) (i : Int) = some (ckL (l.take i) r) := by
      intro r
      induction r with
      | nil =>
        intro i n hd hi hn
        obtain ⟨n, rfl⟩ : ∃ k, n = k + 1 := ⟨n - 1, by simp at hn; omega⟩
        have := drop_nil hd
        simp [scope_Check_L1, show ¬ ((i : Int) < l.length) by omega, ckL]
      | cons x r ih =>
        intro i n hd hi hn
        obtain ⟨n, rfl⟩ : ∃ k, n = k + 1 := ⟨n - 1, by simp at hn; omega⟩
        obtain ⟨h1, h2, h3⟩ := drop_more hd
        have hlt := drop_lt hd
        have hi' : inc 0 (i : Int) l.length = true := by rw [inc_0]; simp; omega
        have hft : fits (l.take i) := by unfold fits; rw [take_len hlt]; omega
        simp only [scope_Check_L1, show ((i : Int) < l.length) by omega, decide_true, if_true, idx_n, h2, Option.bind_some, scope_valid_eq x (fitsAll_at hl h2), hi', chk_true, cut_0, slices_Contains_eq _ _ hft, w64n (show i < 9223372036854775807 by omega), ih (i + 1) n h3 (by omega) (by simp at hn; omega), ckL, take_more hd]
        cases valid x <;> cases (l.take i).contains x <;> simp
    exact key l 0 fuel rfl (by omega) (by unfold fuel; omega)
theorem ckL_ok {l : List Str} : ∀ p : List Str, ckL p l = 0 → ∀ s ∈ l, valid s = true := by
  induction l with
  | nil => intro p _ s hs; cases hs
  | cons x r ih =>
    intro p h s hs
    unfold ckL at h
    cases hv : valid x with
    | false => simp [hv] at h
    | true =>
      simp only [hv, Bool.not_true, Bool.false_eq_true, if_false] at h
      split at h
      · cases h
      · rcases List.mem_cons.1 hs with rfl | hs
        · exact hv
        · exact ih _ h s hs
theorem valid_word {s : Str} (h : valid s = true) : word s = true := by simp only [valid, Bool.and_eq_true] at h; exact h.1.1.1
theorem ck_ok {l : List Str} (h : ck l = 0) : l.length ≤ 16 ∧ ckL [] l = 0 := by
  unfold ck at h
  by_cases h16 : (l.length : Int) > 16
  · simp [h16] at h
  · simp only [h16, decide_false, Bool.false_eq_true, if_false] at h
    exact ⟨by omega, h⟩
/-! ### one scope within another -/
def pre (a b : Str) : Bool := decide (b.length > a.length) && (b.take (a.length + 1) == a ++ [46])
def imp (a b : Str) : Bool := (valid a && valid b) && (a == b || pre a b)
theorem valid_len {s : Str} (h : valid s = true) : 1 ≤ s.length ∧ s.length ≤ 64 := word_len (valid_word h)
theorem pre_prefix (a b : Str) (hl : a.length ≤ 64) (hb : b.length ≤ 64) : strings_HasPrefix b (a ++ [46]) = some (pre a b) := by
  have e : (a ++ [46]).length = a.length + 1 := by simp
  unfold strings_HasPrefix internal_stringslite_HasPrefix pre
  rw [e]
  by_cases h : b.length > a.length
  · have h1 : inc 0 ((a.length + 1 : Nat) : Int) b.length = true := by rw [inc_0]; simp; omega
    simp only [show ((b.length : Int) ≥ ((a.length + 1 : Nat) : Int)) by omega, decide_true, if_true, h1, chk_true, cut_0, Option.bind_some, h, Bool.true_and]
  · have h0 : decide ((b.length : Int) ≥ ((a.length + 1 : Nat) : Int)) = false := by simp; omega
    simp only [h0, Bool.false_eq_true, if_false, Option.bind_some, h, decide_false, Bool.false_and]
theorem scope_Implies_eq (a b : Str) (ha : fits a) (hb : fits b) : scope_Implies a b = some (imp a b) := by
  unfold scope_Implies imp
  rw [scope_valid_eq a ha, scope_valid_eq b hb, Option.bind_some]
  cases va : valid a with
  | false => simp
  | true =>
    cases vb : valid b with
    | false => simp
    | true =>
      have la := valid_len va
      have lb := valid_len vb
      have hf : fitS a [46] = true := by simp [fitS]; omega
      simp only [if_true, Option.bind_some, Bool.true_and, hf, chk_true, pre_prefix a b la.2 lb.2]
      cases a == b <;> simp
def cov (l : List Str) (s : Str) : Bool := l.any fun t => imp t s
def within (a b : List Str) : Bool := a.all fun x => cov b x
/-- few enough strings that can be held -/
def sm (l : List Str) : Prop := l.length ≤ 1000 ∧ fitsAll l
theorem sm.at {l : List Str} (h : sm l) {i : Nat} {x : Str} (hx : l[i]? = some x) : fits x := fitsAll_at h.2 hx
theorem scope_covered_eq (s : Str) (l : List Str) (hs : fits s) (hl : sm l) : scope_covered s l = some (cov l s) := by
  have key : ∀ (r : List Str) (i n : Nat), l.drop i = r → i ≤ l.length → r.length < n → scope_covered_L1 n s l (l.length : Int) (i : Int) = some (r.any fun t => imp t s) := by
    have := hl.1
    intro r
    induction r with
    | nil =>
      intro i n hd hi hn
      obtain ⟨n, rfl⟩ : ∃ k, n = k + 1 := ⟨n - 1, by simp at hn; omega⟩
      have := drop_nil hd
      simp [scope_covered_L1, show ¬ ((i : Int) < l.length) by omega]
    | cons x r ih =>
      intro i n hd hi hn
      obtain ⟨n, rfl⟩ : ∃ k, n = k + 1 := ⟨n - 1, by simp at hn; omega⟩
      obtain ⟨h1, h2, h3⟩ := drop_more hd
      have hlt := drop_lt hd
      simp only [scope_covered_L1, show ((i : Int) < l.length) by omega, decide_true, if_true, idx_n, h2, Option.bind_some, scope_Implies_eq x s (hl.at h2) hs, w64n (show i < 9223372036854775807 by omega), ih (i + 1) n h3 (by omega) (by simp at hn; omega), List.any_cons]
      cases imp x s <;> simp
  exact key l 0 fuel rfl (by omega) (by have := hl.1; unfold fuel; omega)
theorem scope_Within_eq (a b : List Str) (ha : sm a) (hb : sm b) : scope_Within a b = some (within a b) := by
  have key : ∀ (r : List Str) (i n : Nat), a.drop i = r → i ≤ a.length → r.length < n → scope_Within_L1 n b a (a.length : Int) (i : Int) = some (r.all fun x => cov b x) := by
    have := ha.1
    intro r
    induction r with
    | nil =>
      intro i n hd hi hn
      obtain ⟨n, rfl⟩ : ∃ k, n = k + 1 := ⟨n - 1, by simp at hn; omega⟩
      have := drop_nil hd
      simp [scope_Within_L1, show ¬ ((i : Int) < a.length) by omega]
    | cons x r ih =>
      intro i n hd hi hn
      obtain ⟨n, rfl⟩ : ∃ k, n = k + 1 := ⟨n - 1, by simp at hn; omega⟩
      obtain ⟨h1, h2, h3⟩ := drop_more hd
      have hlt := drop_lt hd
      simp only [scope_Within_L1, show ((i : Int) < a.length) by omega, decide_true, if_true, idx_n, h2, Option.bind_some, scope_covered_eq x b (ha.at h2) hb, w64n (show i < 9223372036854775807 by omega), ih (i + 1) n h3 (by omega) (by simp at hn; omega), List.all_cons]
      cases cov b x <;> simp
  exact key a 0 fuel rfl (by omega) (by have := ha.1; unfold fuel; omega)
theorem ref03_Same_eq (a b : List Str) (ha : fits a) : ref03_Same a b = some (a == b) := by
  unfold ref03_Same
  by_cases hlen : a.length = b.length
  · have h0 : ((a.length : Int) != (b.length : Int)) = false := by simp [hlen]
    simp only [h0, Bool.false_eq_true, if_false]
    have key : ∀ (r q : List Str) (i n : Nat), a.drop i = r → b.drop i = q → i ≤ a.length → r.length < n → ref03_Same_L1 n a b (i : Int) = some (r == q) := by
      unfold fits at ha
      intro r
      induction r with
      | nil =>
        intro q i n hd hq hi hn
        obtain ⟨n, rfl⟩ : ∃ k, n = k + 1 := ⟨n - 1, by simp at hn; omega⟩
        have := drop_nil hd
        have hq' : q = [] := by rw [← hq]; simp; omega
        subst hq'
        simp [ref03_Same_L1, show ¬ ((i : Int) < a.length) by omega]
      | cons x r ih =>
        intro q i n hd hq hi hn
        obtain ⟨n, rfl⟩ : ∃ k, n = k + 1 := ⟨n - 1, by simp at hn; omega⟩
        obtain ⟨h1, h2, h3⟩ := drop_more hd
        have hlt := drop_lt hd
        cases q with
        | nil => have := drop_nil hq; omega
        | cons y q =>
          obtain ⟨g1, g2, g3⟩ := drop_more hq
          simp only [ref03_Same_L1, show ((i : Int) < a.length) by omega, decide_true, if_true, idx_n, h2, g2, Option.bind_some, w64n (show i < 9223372036854775807 by omega), ih q (i + 1) n h3 g3 (by omega) (by simp at hn; omega), List.cons_beq_cons]
          cases x == y <;> simp
    exact key a b 0 fuel rfl rfl (by omega) (fuel_pos ha)
  · have h0 : ((a.length : Int) != (b.length : Int)) = true := by simp; omega
    have h1 : (a == b) = false := by
      rw [Bool.eq_false_iff]; intro h; exact hlen (by rw [eq_of_beq h])
    simp [h0, h1]
/-! ### the sorted form -/
theorem str_lt_iff {x y : Str} : x < y ↔ ¬ y ≤ x := by
  constructor
  · intro h h'; exact str_not_lt.2 h' h
  · intro h
    rcases Decidable.em (x < y) with h1 | h1
    · exact h1
    · exact absurd (str_not_lt.1 h1) h
theorem str_lt_irrefl (x : Str) : ¬ x < x := fun h => str_lt_iff.1 h (by rcases str_le_total x x with h | h <;> exact h)
theorem str_lt_le {x y : Str} (h : x < y) : x ≤ y := by
  rcases str_le_total x y with h1 | h1
  · exact h1
  · exact absurd h1 (str_lt_iff.1 h)
theorem str_lt_of {x y : Str} (h : x ≤ y) (hn : x ≠ y) : x < y := str_lt_iff.2 fun h' => hn (str_le_antisymm h h')
/-- strictly ascending -/
def asc (l : List Str) : Prop := l.Pairwise (· < ·)
theorem asc_unique : ∀ {a b : List Str}, asc a → asc b → (∀ x, x ∈ a ↔ x ∈ b) → a = b := by
  intro a b ha hb h
  have na : a.Nodup := ha.imp (fun {x y} (h : x < y) (e : x = y) => str_lt_irrefl x (by rw [← e] at h; exact h))
  have nb : b.Nodup := hb.imp (fun {x y} (h : x < y) (e : x = y) => str_lt_irrefl x (by rw [← e] at h; exact h))
  exact sorted_unique ((List.perm_ext_iff_of_nodup na nb).2 h) (ha.imp str_lt_le) (hb.imp str_lt_le)
theorem sortS_asc {l : List Str} (h : l.Nodup) : asc (sortS l) := by
  have h1 := sortS_sorted l
  have h2 : (sortS l).Nodup := (sortS_perm l).nodup_iff.2 h
  exact (h1.and h2).imp fun h => str_lt_of h.1 h.2

/-- a scope of the list that no other one includes -/
def least (l : List Str) (x : Str) : Bool := valid x && l.all fun t => t == x || !imp t x
def sel (l : List Str) : List Str → List Str → List Str
  | _, [] => []
  | p, x :: r => if !valid x || p.contains x then sel l (p ++ [x]) r else if l.any (fun t => !(t == x) && imp t x) then sel l (p ++ [x]) r else x :: sel l (p ++ [x]) r
def sorted (l : List Str) : List Str := sortS (sel l [] l)
theorem least_any (l : List Str) (x : Str) : (l.all fun t => t == x || !imp t x) = !(l.any (fun t => !(t == x) && imp t x)) := by
  induction l with
  | nil => rfl
  | cons y l ih => simp only [List.all_cons, List.any_cons, ih]; cases y == x <;> cases imp y x <;> simp
theorem mem_sel (l : List Str) (x : Str) : ∀ (r p : List Str), x ∈ sel l p r ↔ x ∈ r ∧ x ∉ p ∧ least l x = true := by
  intro r
  induction r with
  | nil => intro p; simp [sel]
  | cons y r ih =>
    intro p
    have hc : p.contains y = true ↔ y ∈ p := by simp
    unfold sel
    by_cases h1 : (!valid y || p.contains y) = true
    · rw [if_pos h1, ih]
      simp only [List.mem_append, List.mem_cons, List.not_mem_nil, or_false, not_or]
      constructor
      · rintro ⟨a, ⟨b, c⟩, d⟩; exact ⟨.inr a, b, d⟩
      · rintro ⟨a, b, d⟩
        have hne : ¬ x = y := by
          rintro rfl
          simp only [Bool.or_eq_true, Bool.not_eq_true'] at h1
          rcases h1 with h1 | h1
          · unfold least at d; rw [h1] at d; simp at d
          · exact b (hc.1 h1)
        exact ⟨a.resolve_left hne, ⟨b, hne⟩, d⟩
    · rw [if_neg h1]
      by_cases h2 : l.any (fun t => !(t == y) && imp t y) = true
      · rw [if_pos h2, ih]
        simp only [List.mem_append, List.mem_cons, List.not_mem_nil, or_false, not_or]
        constructor
        · rintro ⟨a, ⟨b, c⟩, d⟩; exact ⟨.inr a, b, d⟩
        · rintro ⟨a, b, d⟩
          have hne : ¬ x = y := by
            rintro rfl
            unfold least at d; rw [least_any, h2] at d; simp at d
          exact ⟨a.resolve_left hne, ⟨b, hne⟩, d⟩
      · rw [if_neg h2, List.mem_cons, ih]
        simp only [Bool.or_eq_true, Bool.not_eq_true', not_or, Bool.not_eq_false] at h1
        have hy : y ∉ p := fun h => h1.2 (hc.2 h)
        have hl : least l y = true := by unfold least; rw [least_any, h1.1]; simp at h2 ⊢; exact h2
        simp only [List.mem_append, List.mem_cons, List.not_mem_nil, or_false, not_or]
        constructor
        · rintro (rfl | ⟨a, ⟨b, c⟩, d⟩)
          · exact ⟨.inl rfl, hy, hl⟩
          · exact ⟨.inr a, b, d⟩
        · rintro ⟨a, b, d⟩
          by_cases e : x = y
          · exact .inl e
          · exact .inr ⟨a.resolve_left e, ⟨b, e⟩, d⟩
theorem nodup_sel (l : List Str) : ∀ (r p : List Str), (sel l p r).Nodup := by
  intro r
  induction r with
  | nil => intro p; exact List.nodup_nil
  | cons y r ih =>
    intro p
    unfold sel
    split
    · exact ih _
    · split
      · exact ih _
      · refine List.nodup_cons.2 ⟨fun h => ?_, ih _⟩
        have := ((mem_sel l y r _).1 h).2.1
        simp at this
theorem sel_len (l : List Str) : ∀ (r p : List Str), (sel l p r).length ≤ r.length := by
  intro r
  induction r with
  | nil => intro p; simp [sel]
  | cons y r ih =>
    intro p
    unfold sel
    have := ih (p ++ [y])
    split
    · simp; omega
    · split <;> simp <;> omega
theorem mem_sorted (l : List Str) (x : Str) : x ∈ sorted l ↔ x ∈ l ∧ least l x = true := by
  unfold sorted
  rw [(sortS_perm _).mem_iff, mem_sel]; simp
theorem sorted_asc (l : List Str) : asc (sorted l) := sortS_asc (nodup_sel l l [])
theorem sorted_sm {l : List Str} (h : sm l) : sm (sorted l) := by
  refine ⟨?_, fun s hs => h.2 s ((mem_sorted l s).1 hs).1⟩
  have := sel_len l l []
  unfold sorted
  rw [(sortS_perm _).length_eq]; have := h.1; omega

theorem br3 {α : Type} (a b c : Bool) (p q : Option α) : ((if (!a) = true then some b else some false).bind fun z => if z = true then p else if c = true then p else q) = if (!a && b || c) = true then p else q := by
  cases a <;> cases b <;> cases c <;> rfl
theorem scope_Sorted_eq (l : List Str) (hl : sm l) : scope_Sorted l = some (sorted l) := by
  have h1000 := hl.1
  have inner : ∀ (r0 : List Str → List Str → List Str → Int → Int → Option (List Str)) (out : List Str) (x : Str) (i : Nat), out.length ≤ 1000 → i < l.length → fits x →
      ∀ (q : List Str) (k n : Nat), l.drop k = q → k ≤ l.length → q.length < n →
      scope_Sorted_L3 r0 n l out x l (l.length : Int) (i : Int) l (l.length : Int) (k : Int) =
        if q.any (fun t => !(t == x) && imp t x) then r0 l out l (l.length : Int) ((i + 1 : Nat) : Int) else r0 l (out ++ [x]) l (l.length : Int) ((i + 1 : Nat) : Int) := by
    intro r0 out x i ho hi hx q
    induction q with
    | nil =>
      intro k n hd hk hn
      obtain ⟨n, rfl⟩ : ∃ k, n = k + 1 := ⟨n - 1, by simp at hn; omega⟩
      have := drop_nil hd
      have hf : fitL out.length ([x] : List Str).length = true := by simp [fitL]; omega
      rw [scope_Sorted_L3]
      simp only [show ¬ ((k : Int) < l.length) by omega, decide_false, Bool.false_eq_true, if_false, hf, chk_true, scope_Sorted_B2, w64n (show i < 9223372036854775807 by omega), List.any_nil]
    | cons y q ih =>
      intro k n hd hk hn
      obtain ⟨n, rfl⟩ : ∃ k, n = k + 1 := ⟨n - 1, by simp at hn; omega⟩
      obtain ⟨h1, h2, h3⟩ := drop_more hd
      have hlt := drop_lt hd
      rw [scope_Sorted_L3]
      simp only [show ((k : Int) < l.length) by omega, decide_true, if_true, idx_n, h2, Option.bind_some, scope_Implies_eq y x (hl.at h2) hx, w64n (show k < 9223372036854775807 by omega), w64n (show i < 9223372036854775807 by omega), ih (k + 1) n h3 (by omega) (by simp at hn; omega), List.any_cons, scope_Sorted_B2]
      exact br3 _ _ _ _ _
  have key : ∀ (r : List Str) (i n : Nat) (out : List Str), l.drop i = r → i ≤ l.length → out.length ≤ i → r.length < n →
      scope_Sorted_L1 n l out l (l.length : Int) (i : Int) = some (sortS (out ++ sel l (l.take i) r)) := by
    intro r
    induction r with
    | nil =>
      intro i n out hd hi ho hn
      obtain ⟨n, rfl⟩ : ∃ k, n = k + 1 := ⟨n - 1, by simp at hn; omega⟩
      have := drop_nil hd
      have hs : decide (out.length < 4611686018427387904) = true := by simp; omega
      simp only [scope_Sorted_L1, show ¬ ((i : Int) < l.length) by omega, decide_false, Bool.false_eq_true, if_false, lib_Sort, hs, chk_true, Option.bind_some, sel, List.append_nil]
    | cons x r ih =>
      intro i n out hd hi ho hn
      obtain ⟨n, rfl⟩ : ∃ k, n = k + 1 := ⟨n - 1, by simp at hn; omega⟩
      obtain ⟨h1, h2, h3⟩ := drop_more hd
      have hlt := drop_lt hd
      have hi' : inc 0 (i : Int) l.length = true := by rw [inc_0]; simp; omega
      have hft : fits (l.take i) := by unfold fits; rw [take_len hlt]; omega
      have hin := inner (scope_Sorted_L1 n) out x i (by omega) hlt (hl.at h2) l 0 fuel rfl (by omega) (by unfold fuel; omega)
      have hin' : scope_Sorted_L3 (scope_Sorted_L1 n) fuel l out x l (l.length : Int) (i : Int) l (l.length : Int) 0 = _ := hin
      have e1 := ih (i + 1) n out h3 (by omega) (by omega) (by simp at hn; omega)
      have e2 := ih (i + 1) n (out ++ [x]) h3 (by omega) (by simp; omega) (by simp at hn; omega)
      simp only [scope_Sorted_L1, show ((i : Int) < l.length) by omega, decide_true, if_true, idx_n, h2, Option.bind_some, scope_valid_eq x (hl.at h2), hi', chk_true, cut_0, slices_Contains_eq _ _ hft, hin', scope_Sorted_B2, w64n (show i < 9223372036854775807 by omega), e1, e2, sel, take_more hd]
      cases valid x <;> cases (l.take i).contains x <;> cases l.any (fun t => !(t == x) && imp t x) <;> simp
  have := key l 0 fuel [] rfl (by omega) (by simp) (by unfold fuel; omega)
  simpa [scope_Sorted, sorted] using this
theorem least_iff {l : List Str} {x : Str} : least l x = true ↔ valid x = true ∧ ∀ t ∈ l, imp t x = true → t = x := by
  unfold least
  simp only [Bool.and_eq_true, List.all_eq_true, Bool.or_eq_true, beq_iff_eq, Bool.not_eq_true']
  constructor
  · rintro ⟨h, h'⟩; exact ⟨h, fun t ht hi => (h' t ht).resolve_right (by simp [hi])⟩
  · rintro ⟨h, h'⟩
    refine ⟨h, fun t ht => ?_⟩
    cases hi : imp t x with
    | false => exact .inr rfl
    | true => exact .inl (h' t ht hi)
theorem sorted_congr {l m : List Str} (h : ∀ x, x ∈ l ↔ x ∈ m) : sorted l = sorted m := by
  refine asc_unique (sorted_asc l) (sorted_asc m) fun x => ?_
  rw [mem_sorted, mem_sorted, h, least_iff, least_iff]
  simp only [h]
theorem put_set {K V : Type} [DecidableEq K] {key : K} {r x : V} : ∀ {l : List (K × V)} {k : Nat}, l[k]? = some (key, r) → (∀ q ∈ l.take k, q.1 ≠ key) → mputL key x l = l.set k (key, x)
  | [], k, h, _ => by simp at h
  | p :: l, 0, h, _ => by
    simp at h; subst h
    simp [mputL]
  | p :: l, k + 1, h, ht => by
    have hp := ht p (by simp)
    unfold mputL
    rw [if_neg (fun e => hp e.symm), put_set (k := k) (by simpa using h) (fun q hq => ht q (by simp [hq]))]
    rfl
theorem put_none {K V : Type} [DecidableEq K] {key : K} {x : V} : ∀ {l : List (K × V)}, mfind key l = none → mputL key x l = l ++ [(key, x)]
  | [], _ => rfl
  | p :: l, h => by
    unfold mfind at h
    split at h
    · cases h
    · rename_i e
      unfold mputL
      rw [if_neg e, put_none h]; rfl
/-! ### entries in order of their keys -/
theorem insK_sorted {V : Type} (p : Str × V) : ∀ l : List (Str × V), l.Pairwise (fun a b => a.1 ≤ b.1) → (insK p l).Pairwise (fun a b => a.1 ≤ b.1)
  | [], _ => by simp [insK]
  | q :: r, h => by
    obtain ⟨h1, h2⟩ := List.pairwise_cons.1 h
    unfold insK
    rw [sLt_eq]
    by_cases hy : p.1 < q.1
    · rw [if_pos (decide_eq_true hy)]
      have hle : p.1 ≤ q.1 := by
        rcases str_le_total p.1 q.1 with h | h
        · exact h
        · exact absurd hy (str_not_lt.2 h)
      refine List.pairwise_cons.2 ⟨fun z hz => ?_, h⟩
      rcases List.mem_cons.1 hz with rfl | hz
      · exact hle
      · exact str_le_trans hle (h1 z hz)
    · rw [if_neg (by simpa using hy)]
      have hxy : q.1 ≤ p.1 := str_not_lt.1 hy
      refine List.pairwise_cons.2 ⟨fun z hz => ?_, insK_sorted p r h2⟩
      rcases List.mem_cons.1 ((insK_perm p r).mem_iff.1 hz) with rfl | hz
      · exact hxy
      · exact h1 z hz
theorem canonL_sorted {V : Type} : ∀ l : List (Str × V), (canonL l).Pairwise (fun a b => a.1 ≤ b.1)
  | [] => List.Pairwise.nil
  | p :: r => insK_sorted p _ (canonL_sorted r)
theorem canonL_eq {V : Type} {a b : List (Str × V)} (hn : nodupK a) (h : a.Perm b) : canonL a = canonL b := by
  have hp : (canonL a).Perm (canonL b) := (canonL_perm a).trans (h.trans (canonL_perm b).symm)
  refine List.Perm.eq_of_pairwise (fun x y hx hy h1 h2 => ?_) (canonL_sorted a) (canonL_sorted b) hp
  have e := str_le_antisymm h1 h2
  have hx' := (canonL_perm a).mem_iff.1 hx
  have hy' := h.mem_iff.2 ((canonL_perm b).mem_iff.1 hy)
  have f1 := mfind_of_mem hn (show (x.1, x.2) ∈ a from hx')
  have f2 := mfind_of_mem hn (show (y.1, y.2) ∈ a from hy')
  rw [e, f2] at f1
  exact Prod.ext e (Option.some.inj f1).symm
/-! ### maps up to order -/
theorem mfind_perm {V : Type} {a b : List (Str × V)} (hn : nodupK a) (h : a.Perm b) (k : Str) : mfind k a = mfind k b := by
  have hb : nodupK b := (h.map Prod.fst).nodup_iff.1 hn
  cases hf : mfind k a with
  | none =>
    rw [mfind_none] at hf
    symm
    rw [mfind_none]
    exact fun p hp => hf p (h.mem_iff.2 hp)
  | some x => exact (mfind_of_mem hb (h.mem_iff.1 (mfind_mem hf))).symm
theorem put_perm {V : Type} {a b : List (Str × V)} (hn : nodupK a) (h : a.Perm b) (k : Str) (x : V) : (mputL k x a).Perm (mputL k x b) := by
  have hb : nodupK b := (h.map Prod.fst).nodup_iff.1 hn
  have key : ∀ l : List (Str × V), nodupK l → (mputL k x l).Perm ((k, x) :: l.filter fun p => decide (p.1 ≠ k)) := by
    intro l
    induction l with
    | nil => intro _; exact .refl _
    | cons p r ih =>
      intro hl
      obtain ⟨h1, h2⟩ := nodupK_cons.1 hl
      unfold mputL
      by_cases e : k = p.1
      · rw [if_pos e, List.filter_cons, if_neg (by simp [e])]
        have : r.filter (fun p => decide (p.1 ≠ k)) = r := List.filter_eq_self.2 fun q hq => by rw [e]; simpa using h1 q hq
        rw [this]
      · rw [if_neg e, List.filter_cons, if_pos (by simpa using fun h => e h.symm)]
        exact ((ih h2).cons p).trans (.swap _ _ _)
  exact (key a hn).trans (((h.filter _).cons _).trans (key b hb).symm)
/-! ### consents -/
theorem awake32 : law32_awake = some true := by kernel_rfl
abbrev IL := List (Str × Int)
abbrev CL := List (consent_pair × GMap Str Int)
def addAll (e : Int) : IL → List Str → IL
  | m, [] => m
  | m, s :: r => addAll e (mputL s (gmax ((mfind s m).getD 0) e) m) r
theorem grant_three (r0 : consent_Consents → List Str → Int → Int → Str → Str → GMap Str Int → GMap Str Int → List Str → Option (Int × consent_Consents)) (l : CL) (e : Int) (u c : Str) (sc : List Str) (hs : sc.length ≤ 1000) :
    ∀ (r : List Str) (i n : Nat) (m : IL), sc.drop i = r → r.length < n →
    consent_Consents_Grant_L3 r0 n ⟨some l⟩ e u c (some m) sc (sc.length : Int) (i : Int) = if (addAll e m r).length > 16 then some (3, ⟨some l⟩) else some (0, ⟨some (mputL ⟨u, c⟩ (some (canonL (addAll e m r))) l)⟩) := by
  intro r
  induction r with
  | nil =>
    intro i n m hd hn
    obtain ⟨n, rfl⟩ : ∃ k, n = k + 1 := ⟨n - 1, by simp at hn; omega⟩
    have := drop_nil hd
    have hm : mlen (some m) = (m.length : Int) := by unfold mlen; simp
    have ha : addAll e m [] = m := rfl
    unfold consent_Consents_Grant_L3
    rw [if_neg (by simp; omega), hm, ha]
    by_cases h : m.length > 16
    · rw [if_pos (by simp; omega), if_pos h]
    · rw [if_neg (by simp; omega), if_neg h]; rfl
  | cons x r ih =>
    intro i n m hd hn
    obtain ⟨n, rfl⟩ : ∃ k, n = k + 1 := ⟨n - 1, by simp at hn; omega⟩
    obtain ⟨h1, h2, h3⟩ := drop_more hd
    have hlt := drop_lt hd
    unfold consent_Consents_Grant_L3
    rw [if_pos (by simp; omega), idx_n, h2, Option.bind_some, Option.bind_some, w64n (show i < 9223372036854775807 by omega)]
    exact ih (i + 1) n _ h3 (by simp at hn; omega)
theorem nodup_perm {V : Type} {a b : List (Str × V)} (hn : nodupK a) (h : a.Perm b) : nodupK b := (h.map Prod.fst).nodup_iff.1 hn
theorem addAll_perm (e : Int) : ∀ (r : List Str) {a b : IL}, nodupK a → a.Perm b → nodupK (addAll e a r) ∧ (addAll e a r).Perm (addAll e b r)
  | [], a, b, hn, h => ⟨hn, h⟩
  | s :: r, a, b, hn, h => by
    have h1 : nodupK (mputL s (gmax ((mfind s a).getD 0) e) a) := nodupK_put hn
    have h2 := put_perm hn h s (gmax ((mfind s a).getD 0) e)
    have e1 := mfind_perm hn h s
    have := addAll_perm e r h1 h2
    simp only [addAll]
    rw [← e1]
    exact this
def live (at_ : Int) (l : IL) : IL := l.filter fun p => decide (p.2 > at_)
theorem put_new {V : Type} {k : Str} {x : V} {m : List (Str × V)} (h : mfind k m = none) : mputL k x m = m ++ [(k, x)] := put_none h
theorem live_cons (at_ : Int) (p : Str × Int) (l : IL) : live at_ (p :: l) = if p.2 > at_ then p :: live at_ l else live at_ l := by
  unfold live
  rw [List.filter_cons]
  by_cases h : p.2 > at_ <;> simp [h]
/-- what Grant does, by what the old entries are -/
def grR (l : CL) (u c : Str) (e at_ : Int) (old : IL) (sc : List Str) : Int × consent_Consents :=
  if (addAll e (live at_ old) sc).length > 16 then (3, ⟨some l⟩) else (0, ⟨some (mputL ⟨u, c⟩ (some (canonL (addAll e (live at_ old) sc))) l)⟩)
theorem grant_one (l : CL) (u c : Str) (e at_ : Int) (sc : List Str) (hs : sc.length ≤ 1000) (old : IL) (hn : nodupK old) :
    ∀ (k : Nat) (done : List Str) (m : IL) (n : Nat), (leftL old done).length = k → k < n → (m ++ live at_ (leftL old done)).Perm (live at_ old) →
    consent_Consents_Grant_L1 n ⟨some l⟩ sc e at_ u c (some m) (some old) done = some (grR l u c e at_ old sc) := by
  have hl : nodupK (live at_ old) := nodupK_filter hn
  intro k
  induction k with
  | zero =>
    intro done m n hk hnn hp
    obtain ⟨n, rfl⟩ : ∃ k, n = k + 1 := ⟨n - 1, by omega⟩
    have e0 := List.eq_nil_of_length_eq_zero hk
    rw [e0] at hp
    have hp' : m.Perm (live at_ old) := by simpa [live] using hp
    have hm : nodupK m := nodup_perm hl hp'.symm
    obtain ⟨a1, a2⟩ := addAll_perm e sc hm hp'
    unfold consent_Consents_Grant_L1
    rw [mleft_some, e0]
    refine pickAny_of (fun _ => ?_) (fun x hx => by cases hx)
    have := grant_three (consent_Consents_Grant_L1 n) l e u c sc hs sc 0 fuel m rfl (by unfold fuel; omega)
    rw [show ((0 : Nat) : Int) = 0 from rfl] at this
    rw [this]
    unfold grR
    rw [a2.length_eq, canonL_eq a1 a2]
    split <;> rfl
  | succ k ih =>
    intro done m n hk hnn hp
    obtain ⟨n, rfl⟩ : ∃ k, n = k + 1 := ⟨n - 1, by omega⟩
    unfold consent_Consents_Grant_L1
    rw [mleft_some]
    refine pickAny_of (fun x => by rw [x] at hk; cases hk) (fun x hx => ?_)
    have hlen := leftL_len hn hx
    have hpx := leftL_perm hn hx
    have hlx : (live at_ (leftL old done)).Perm (live at_ (x :: leftL old (x.1 :: done))) := hpx.filter _
    have hp2 := ((List.Perm.append_left m hlx).symm).trans hp
    rw [live_cons] at hp2
    unfold consent_Consents_Grant_B2
    by_cases hx2 : x.2 > at_
    · rw [if_pos hx2] at hp2
      have hmn : nodupK (m ++ x :: live at_ (leftL old (x.1 :: done))) := nodup_perm hl hp2.symm
      have hnew : mfind x.1 m = none := by
        rw [mfind_none]
        intro q hq e'
        unfold nodupK at hmn
        rw [List.map_append, List.nodup_append] at hmn
        exact hmn.2.2 q.1 (List.mem_map.2 ⟨q, hq, rfl⟩) x.1 (by simp) e'
      rw [if_pos (decide_eq_true hx2), chk_t (show (some m : GMap Str Int).isSome = true from rfl)]
      have hput : mput (some m) x.1 x.2 = some (m ++ [x]) := by
        show some (mputL x.1 x.2 m) = _
        rw [put_new hnew]
      rw [hput]
      exact ih (x.1 :: done) (m ++ [x]) n (by omega) (by omega) (by simpa using hp2)
    · rw [if_neg hx2] at hp2
      rw [if_neg (by simpa using hx2)]
      exact ih (x.1 :: done) m n (by omega) (by omega) hp2
theorem clock_Add0 (a : Int) : clock_Add a 0 = some (lim a) := by
  unfold clock_Add
  have h := lim_range a
  have e1 : clock_limited a = some (lim a) := rfl
  have e0 : clock_limited 0 = some 0 := rfl
  rw [e1, e0, Option.bind_some, Option.bind_some, Int.add_zero, w64 (by omega) (by omega)]
  have e2 : clock_limited (lim a) = some (lim (lim a)) := rfl
  rw [e2, Option.bind_some]
  congr 1
  rw [lim_val (lim a), if_neg (by omega), if_neg (by omega)]
theorem valid_loop (m : IL) (hn : nodupK m) (hm : m.length ≤ 1000) (now : Int) : ∀ (k : Nat) (done out : List Str) (n : Nat), (leftL m done).length = k → k < n → (out ++ (live (lim now) (leftL m done)).map Prod.fst).Perm ((live (lim now) m).map Prod.fst) →
    consent_Consents_valid_L1 n now out (some m) done = some (sortS ((live (lim now) m).map Prod.fst)) := by
  intro k
  induction k with
  | zero =>
    intro done out n hk hnn hp
    obtain ⟨n, rfl⟩ : ∃ k, n = k + 1 := ⟨n - 1, by omega⟩
    have e0 := List.eq_nil_of_length_eq_zero hk
    rw [e0] at hp
    have hp' : out.Perm ((live (lim now) m).map Prod.fst) := by simpa [live] using hp
    unfold consent_Consents_valid_L1
    rw [mleft_some, e0]
    refine pickAny_of (fun _ => ?_) (fun x hx => by cases hx)
    congr 1
    exact sorted_unique ((sortS_perm _).trans (hp'.trans (sortS_perm _).symm)) (sortS_sorted _) (sortS_sorted _)
  | succ k ih =>
    intro done out n hk hnn hp
    obtain ⟨n, rfl⟩ : ∃ k, n = k + 1 := ⟨n - 1, by omega⟩
    unfold consent_Consents_valid_L1
    rw [mleft_some]
    refine pickAny_of (fun x => by rw [x] at hk; cases hk) (fun x hx => ?_)
    have hlen := leftL_len hn hx
    have hlx : (live (lim now) (leftL m done)).Perm (live (lim now) (x :: leftL m (x.1 :: done))) := (leftL_perm hn hx).filter _
    have hp2 := ((List.Perm.append_left out (hlx.map Prod.fst)).symm).trans hp
    rw [live_cons] at hp2
    rw [clock_Add0, Option.bind_some]
    unfold consent_Consents_valid_B2
    have hol : out.length ≤ m.length := by
      have h1 := hp.length_eq
      have h2 : (live (lim now) m).length ≤ m.length := List.length_filter_le _ _
      simp at h1; omega
    by_cases hx2 : x.2 > lim now
    · rw [if_pos hx2] at hp2
      rw [if_pos (decide_eq_true hx2), chk_t (by simp [fitL]; omega)]
      exact ih (x.1 :: done) (out ++ [x.1]) n (by omega) (by omega) (by simpa using hp2)
    · rw [if_neg hx2] at hp2
      rw [if_neg (by simpa using hx2)]
      exact ih (x.1 :: done) out n (by omega) (by omega) hp2
/-! ### the state: each pair with its entries -/
abbrev AL := List (consent_pair × IL)
section
variable {K V W : Type} [DecidableEq K]
theorem find_mapV (f : V → W) (k : K) : ∀ l : List (K × V), mfind k (l.map fun p => (p.1, f p.2)) = (mfind k l).map f
  | [] => rfl
  | p :: l => by
    simp only [List.map_cons, mfind]
    split
    · rfl
    · exact find_mapV f k l
theorem put_mapV (f : V → W) (k : K) (x : V) : ∀ l : List (K × V), mputL k (f x) (l.map fun p => (p.1, f p.2)) = (mputL k x l).map fun p => (p.1, f p.2)
  | [] => rfl
  | p :: l => by
    simp only [List.map_cons, mputL]
    split
    · rfl
    · rw [put_mapV f k x l]; rfl
theorem del_mapV (f : V → W) (k : K) : ∀ l : List (K × V), mdelL k (l.map fun p => (p.1, f p.2)) = (mdelL k l).map fun p => (p.1, f p.2)
  | [] => rfl
  | p :: l => by
    simp only [List.map_cons, mdelL]
    split
    · rfl
    · rw [del_mapV f k l]; rfl
theorem keys_put (k : K) (x : V) : ∀ l : List (K × V), (mputL k x l).map Prod.fst = if k ∈ l.map Prod.fst then l.map Prod.fst else l.map Prod.fst ++ [k]
  | [] => by simp [mputL]
  | p :: l => by
    unfold mputL
    by_cases e : k = p.1
    · rw [if_pos e, if_pos (by simp [e])]; simp [e]
    · rw [if_neg e, List.map_cons, keys_put k x l]
      by_cases h : k ∈ l.map Prod.fst
      · rw [if_pos h, if_pos (by simp at h ⊢; exact .inr h)]; rfl
      · rw [if_neg h, if_neg (by simp at h ⊢; exact ⟨e, h⟩)]; rfl
theorem keys_del {k : K} {l : List (K × V)} (hn : nodupK l) : (mdelL k l).map Prod.fst = (l.map Prod.fst).filter fun x => decide (x ≠ k) := by
  rw [del_filter hn, List.filter_map]; rfl
theorem find_keys {k : K} {l : List (K × V)} : (mfind k l).isSome = true ↔ k ∈ l.map Prod.fst := by
  cases h : mfind k l with
  | none =>
    rw [mfind_none] at h
    simp only [Option.isSome_none, Bool.false_eq_true, false_iff, List.mem_map, not_exists, not_and]
    exact fun p hp => h p hp
  | some x => simp only [Option.isSome_some, true_iff, List.mem_map]; exact ⟨_, mfind_mem h, rfl⟩
end
theorem opt_cases {α : Type} (o : Option α) : o = none ∨ ∃ r, o = some r := by cases o <;> simp
theorem mlen_some {K V : Type} (l : List (K × V)) : mlen (some l) = (l.length : Int) := by unfold mlen; simp
theorem or3 (a b : Bool) : (if (!a) = true then some true else some (!b)) = some (!a || !b) := by cases a <;> rfl
abbrev cs (a : AL) : CL := a.map fun p => (p.1, some p.2)
def old (a : AL) (k : consent_pair) : IL := (mfind k a).getD []
/-- what a pair's entries are -/
structure goodI (m : IL) : Prop where
  nd : nodupK m
  len : m.length ≤ 16
  val : ∀ q ∈ m, valid q.1 = true
structure InvA (a : AL) : Prop where
  nd : nodupK a
  len : a.length ≤ 256
  good : ∀ p ∈ a, goodI p.2
theorem goodI_nil : goodI [] := ⟨nodupK_nil, by simp, fun q h => by cases h⟩
theorem invA_nil : InvA [] := ⟨nodupK_nil, by simp, fun q h => by cases h⟩
theorem InvA.old {a : AL} (h : InvA a) (k : consent_pair) : goodI (old a k) := by
  unfold S.old
  rcases opt_cases (mfind k a) with e | ⟨m, e⟩
  · rw [e]; exact goodI_nil
  · rw [e]; exact h.good _ (mfind_mem e)
theorem live_good {m : IL} (h : goodI m) (t : Int) : goodI (live t m) := ⟨nodupK_filter h.nd, Nat.le_trans (List.length_filter_le _ _) h.len, fun q hq => h.val q (List.mem_filter.1 hq).1⟩
theorem goodI.keys {m : IL} (h : goodI m) : sm (m.map Prod.fst) := ⟨by have := h.len; simp; omega, fun s hs => by
  obtain ⟨q, hq, rfl⟩ := List.mem_map.1 hs
  exact word_fits (valid_word (h.val q hq))⟩
theorem addAll_keys (e : Int) : ∀ (r : List Str) (m : IL) (p : Str × Int), p ∈ addAll e m r → p.1 ∈ r ∨ p.1 ∈ m.map Prod.fst
  | [], m, p, h => .inr (List.mem_map.2 ⟨p, h, rfl⟩)
  | s :: r, m, p, h => by
    rcases addAll_keys e r _ p h with h | h
    · exact .inl (by simp [h])
    · rw [keys_put] at h
      split at h
      · exact .inr h
      · rcases List.mem_append.1 h with h | h
        · exact .inr h
        · simp at h; exact .inl (by simp [h])
theorem addAll_nodup (e : Int) (r : List Str) {m : IL} (h : nodupK m) : nodupK (addAll e m r) := (addAll_perm e r h (.refl _)).1
/-- Grant -/
def grN (a : AL) (u c : Str) (sc : List Str) (unt now : Int) : IL := addAll (lim unt) (live (lim now) (old a ⟨u, c⟩)) sc
def grE (a : AL) (u c : Str) (sc : List Str) (unt now : Int) : Int :=
  if (!word u || !word c) then 5 else if ck sc ≠ 0 then ck sc else if sc = [] then 6 else if lim unt ≤ lim now then 13
  else if (mfind (⟨u, c⟩ : consent_pair) a).isSome = false ∧ 256 ≤ a.length then 3 else if (grN a u c sc unt now).length > 16 then 3 else 0
def grL (f : IL → IL) (a : AL) (u c : Str) (sc : List Str) (unt now : Int) : AL := if grE a u c sc unt now = 0 then mputL ⟨u, c⟩ (f (grN a u c sc unt now)) a else a
theorem grE_ok {a : AL} {u c : Str} {sc : List Str} {unt now : Int} (h : grE a u c sc unt now = 0) :
    word u = true ∧ word c = true ∧ ck sc = 0 ∧ sc ≠ [] ∧ lim now < lim unt ∧ ((mfind (⟨u, c⟩ : consent_pair) a).isSome = true ∨ a.length < 256) ∧ (grN a u c sc unt now).length ≤ 16 := by
  unfold grE at h
  by_cases h1 : (!word u || !word c) = true
  · rw [if_pos h1] at h; cases h
  rw [if_neg h1] at h
  by_cases h2 : ck sc ≠ 0
  · rw [if_pos h2] at h; exact absurd h h2
  rw [if_neg h2] at h
  by_cases h3 : sc = []
  · rw [if_pos h3] at h; cases h
  rw [if_neg h3] at h
  by_cases h4 : lim unt ≤ lim now
  · rw [if_pos h4] at h; cases h
  rw [if_neg h4] at h
  by_cases h5 : (mfind (⟨u, c⟩ : consent_pair) a).isSome = false ∧ 256 ≤ a.length
  · rw [if_pos h5] at h; cases h
  rw [if_neg h5] at h
  by_cases h6 : (grN a u c sc unt now).length > 16
  · rw [if_pos h6] at h; cases h
  simp only [Bool.or_eq_true, Bool.not_eq_true', not_or, Bool.not_eq_false] at h1
  refine ⟨h1.1, h1.2, by simpa using h2, h3, by omega, ?_, by omega⟩
  cases hm : (mfind (⟨u, c⟩ : consent_pair) a).isSome with
  | true => exact .inl rfl
  | false => exact .inr (by simp only [hm, true_and] at h5; omega)
theorem grN_good {a : AL} (h : InvA a) {u c : Str} {sc : List Str} {unt now : Int} (he : grE a u c sc unt now = 0) : goodI (grN a u c sc unt now) := by
  obtain ⟨_, _, h3, _, _, _, h7⟩ := grE_ok he
  have hg := live_good (h.old ⟨u, c⟩) (lim now)
  refine ⟨addAll_nodup _ _ hg.nd, h7, fun q hq => ?_⟩
  rcases addAll_keys _ _ _ _ hq with hq | hq
  · exact ckL_ok [] (ck_ok h3).2 _ hq
  · obtain ⟨p, hp, e⟩ := List.mem_map.1 hq
    rw [← e]; exact hg.val p hp
theorem good_perm {m m' : IL} (h : goodI m) (hp : m.Perm m') : goodI m' := ⟨nodup_perm h.nd hp, by rw [← hp.length_eq]; exact h.len, fun q hq => h.val q (hp.mem_iff.2 hq)⟩
theorem invA_put {a : AL} (h : InvA a) {k : consent_pair} {x : IL} (hk : (mfind k a).isSome = true ∨ a.length < 256) (hg : goodI x) : InvA (mputL k x a) := by
  refine ⟨nodupK_put h.nd, ?_, fun p hp => ?_⟩
  · rw [len_put]
    have := h.len
    rcases hk with hk | hk
    · rw [if_pos hk]; exact this
    · split <;> omega
  · rcases mem_put hp with rfl | hp
    · exact hg
    · exact h.good p hp
theorem invA_gr {a : AL} (h : InvA a) (f : IL → IL) (hf : ∀ m : IL, m.Perm (f m)) (u c : Str) (sc : List Str) (unt now : Int) : InvA (grL f a u c sc unt now) := by
  unfold grL
  split
  · rename_i e
    exact invA_put h (grE_ok e).2.2.2.2.2.1 (good_perm (grN_good h e) (hf _))
  · exact h
theorem mleft_none_some {K V : Type} [DecidableEq K] (done : List K) : mleft (none : GMap K V) done = mleft (some []) done := rfl
theorem grant_none (n : Nat) (l : CL) (sc : List Str) (e at_ : Int) (u c : Str) (m : GMap Str Int) : consent_Consents_Grant_L1 (n + 1) ⟨some l⟩ sc e at_ u c m none [] = consent_Consents_Grant_L1 (n + 1) ⟨some l⟩ sc e at_ u c m (some []) [] := by
  unfold consent_Consents_Grant_L1
  rw [mleft_none_some]
  rfl
theorem grant_eq {a : AL} (h : InvA a) (u c : Str) {sc : List Str} (unt now : Int) (hu : fits u) (hc : fits c) (hs : sm sc) :
    consent_Consents_Grant ⟨some (cs a)⟩ u c sc unt now = some (grE a u c sc unt now, ⟨some (cs (grL canonL a u c sc unt now))⟩) := by
  unfold consent_Consents_Grant grL
  have hsl := hs.1
  have hm : (some (cs a) : GMap consent_pair (GMap Str Int)).isNone = false := rfl
  simp only [hm, Bool.false_eq_true, if_false, fold_Word_eq u hu, fold_Word_eq c hc, Option.bind_some, or3, scope_Check_eq sc hs.2, clock_Add0]
  by_cases h1 : (!word u || !word c) = true
  · have hE : grE a u c sc unt now = 5 := by unfold grE; rw [if_pos h1]
    rw [if_pos h1, hE, if_neg (by decide)]
  rw [if_neg h1]
  by_cases h2 : ck sc ≠ 0
  · have hE : grE a u c sc unt now = ck sc := by unfold grE; rw [if_neg h1, if_pos h2]
    rw [if_pos (by simpa using h2), hE, if_neg h2]
  rw [if_neg (by simpa using h2)]
  by_cases h3 : sc = []
  · have hE : grE a u c sc unt now = 6 := by unfold grE; rw [if_neg h1, if_neg h2, if_pos h3]
    rw [if_pos (by simp [h3]), hE, if_neg (by decide)]
  rw [if_neg (by simp [h3])]
  by_cases h4 : lim unt ≤ lim now
  · have hE : grE a u c sc unt now = 13 := by unfold grE; rw [if_neg h1, if_neg h2, if_neg h3, if_pos h4]
    rw [if_pos (by simpa using h4), hE, if_neg (by decide)]
  rw [if_neg (by simpa using h4)]
  have hE : grE a u c sc unt now = if (mfind (⟨u, c⟩ : consent_pair) a).isSome = false ∧ 256 ≤ a.length then 3 else if (grN a u c sc unt now).length > 16 then 3 else 0 := by
    unfold grE; rw [if_neg h1, if_neg h2, if_neg h3, if_neg h4]
  have hF : mfind (⟨u, c⟩ : consent_pair) (cs a) = (mfind ⟨u, c⟩ a).map some := find_mapV some _ a
  unfold mhas mgetD
  simp only [Option.getD_some, hF, mlen_some, List.length_map, Option.isSome_map]
  by_cases h5 : (mfind (⟨u, c⟩ : consent_pair) a).isSome = false ∧ 256 ≤ a.length
  · rw [hE, if_pos h5, if_neg (show ¬ ((3 : Int) = 0) by decide), if_pos (by simp [h5.1]; omega)]
  · have : ¬ ((!(mfind (⟨u, c⟩ : consent_pair) a).isSome) && decide ((a.length : Int) ≥ 256)) = true := by
      intro e
      simp only [Bool.and_eq_true, Bool.not_eq_true', decide_eq_true_eq] at e
      exact h5 ⟨e.1, by omega⟩
    rw [if_neg this, hE, if_neg h5]
    have hg := (h.old ⟨u, c⟩)
    have hgl := hg.len
    have main : consent_Consents_Grant_L1 fuel ⟨some (cs a)⟩ sc (lim unt) (lim now) u c (some []) (some (old a ⟨u, c⟩)) [] = some (grR (cs a) u c (lim unt) (lim now) (old a ⟨u, c⟩) sc) :=
      grant_one (cs a) u c (lim unt) (lim now) sc hsl (old a ⟨u, c⟩) hg.nd (old a ⟨u, c⟩).length [] [] fuel (by rw [leftL_nil]) (by unfold fuel; omega) (by rw [leftL_nil]; exact .refl _)
    have fin : grR (cs a) u c (lim unt) (lim now) (old a ⟨u, c⟩) sc = ((if (grN a u c sc unt now).length > 16 then 3 else 0), ⟨some (cs (if (if (grN a u c sc unt now).length > 16 then (3 : Int) else 0) = 0 then mputL ⟨u, c⟩ (canonL (grN a u c sc unt now)) a else a))⟩) := by
      unfold grR
      have e0 : addAll (lim unt) (live (lim now) (old a ⟨u, c⟩)) sc = grN a u c sc unt now := rfl
      rw [e0]
      by_cases h6 : (grN a u c sc unt now).length > 16
      · rw [if_pos h6, if_pos h6, if_neg (by decide)]
      · rw [if_neg h6, if_neg h6, if_pos rfl, put_mapV some]
    rw [← fin, ← main]
    unfold S.old
    rcases opt_cases (mfind (⟨u, c⟩ : consent_pair) a) with e | ⟨m, e⟩
    · rw [e]
      obtain ⟨k, hk⟩ : ∃ k, fuel = k + 1 := ⟨fuel - 1, by unfold fuel; omega⟩
      rw [hk]
      exact grant_none k _ _ _ _ _ _ _
    · rw [e]; rfl
/-! ### Revoke, Drop, Len -/
theorem revoke_eq (a : AL) (u c : Str) : consent_Consents_Revoke ⟨some (cs a)⟩ u c = some ((mfind (⟨u, c⟩ : consent_pair) a).isSome, ⟨some (cs (mdelL ⟨u, c⟩ a))⟩) := by
  have hF : mfind (⟨u, c⟩ : consent_pair) (cs a) = (mfind ⟨u, c⟩ a).map some := find_mapV some _ a
  have hD : mdelL (⟨u, c⟩ : consent_pair) (cs a) = cs (mdelL ⟨u, c⟩ a) := del_mapV some _ a
  unfold consent_Consents_Revoke mhas mdel
  simp only [Option.getD_some, hF, Option.isSome_map, Option.bind_some, Option.map_some, hD]
theorem invA_del {a : AL} (h : InvA a) (k : consent_pair) : InvA (mdelL k a) := by
  refine ⟨nodupK_del h.nd, ?_, fun p hp => h.good p (mem_del hp)⟩
  have := len_del (k := k) h.nd
  have := h.len
  omega
def others {V : Type} (u : Str) (l : List (consent_pair × V)) : List (consent_pair × V) := l.filter fun p => !(p.1.user == u)
theorem others_len {V : Type} (u : Str) (l : List (consent_pair × V)) : (others u l).length ≤ l.length := List.length_filter_le _ _
theorem others_cs (u : Str) (a : AL) : others u (cs a) = cs (others u a) := by
  unfold others cs
  rw [List.filter_map]; rfl
theorem dropf_loop (u : Str) (l0 : CL) (hn0 : nodupK l0) : ∀ (k : Nat) (l : CL) (done : List consent_pair) (n : Nat), (leftL l done).length = k → k < n → nodupK l → others u l = others u l0 → (∀ p ∈ l, p.1 ∈ done → (p.1.user == u) = false) →
    maps_DeleteFunc_map_consent_pair_map_string_int_consent_pair_map_string_int__Consents_Drop_1_L1 n (some l) u done = some (some (others u l0)) := by
  intro k
  induction k with
  | zero =>
    intro l done n hk hn hnd ho hd
    obtain ⟨n, rfl⟩ : ∃ k, n = k + 1 := ⟨n - 1, by omega⟩
    have e := List.eq_nil_of_length_eq_zero hk
    unfold maps_DeleteFunc_map_consent_pair_map_string_int_consent_pair_map_string_int__Consents_Drop_1_L1
    rw [mleft_some, e]
    refine pickAny_of (fun _ => ?_) (fun e he => by cases he)
    rw [← ho]
    congr 2
    symm
    refine List.filter_eq_self.2 fun p hp => ?_
    have : p.1 ∈ done := by
      refine Classical.byContradiction fun hc => ?_
      have : p ∈ leftL l done := List.mem_filter.2 ⟨hp, by simpa using hc⟩
      rw [e] at this; cases this
    rw [hd p hp this]; rfl
  | succ k ih =>
    intro l done n hk hn hnd ho hd
    obtain ⟨n, rfl⟩ : ∃ k, n = k + 1 := ⟨n - 1, by omega⟩
    unfold maps_DeleteFunc_map_consent_pair_map_string_int_consent_pair_map_string_int__Consents_Drop_1_L1
    rw [mleft_some]
    refine pickAny_of (fun e => by rw [e] at hk; cases hk) (fun e he => ?_)
    obtain ⟨he1, he2⟩ := leftL_mem he
    have hlen := leftL_len hnd he
    unfold consent_Consents_Drop_1 maps_DeleteFunc_map_consent_pair_map_string_int_consent_pair_map_string_int__Consents_Drop_1_B2
    rw [Option.bind_some]
    cases hx : e.1.user == u with
    | true =>
      rw [if_pos rfl]
      have hm : mdel (some l) e.1 = some (mdelL e.1 l) := rfl
      rw [hm]
      have e1 : leftL (mdelL e.1 l) (e.1 :: done) = leftL l (e.1 :: done) := by
        rw [del_filter hnd]
        unfold leftL
        rw [List.filter_filter]
        refine List.filter_congr fun p _ => ?_
        by_cases hp : p.1 = e.1 <;> simp [hp]
      refine ih _ _ n (by rw [e1]; omega) (by omega) (nodupK_del hnd) ?_ fun p hp hpd => ?_
      · rw [← ho, del_filter hnd]
        unfold others
        rw [List.filter_filter]
        refine List.filter_congr fun p hp => ?_
        by_cases hpe : p.1 = e.1
        · simp [hpe, hx]
        · simp [hpe]
      · rw [del_filter hnd, List.mem_filter] at hp
        have q2 : p.1 ≠ e.1 := by simpa using hp.2
        refine hd p hp.1 ?_
        rcases List.mem_cons.1 hpd with h | h
        · exact absurd h q2
        · exact h
    | false =>
      rw [if_neg (by simp)]
      refine ih _ _ n (by omega) (by omega) hnd ho fun p hp hpd => ?_
      rcases List.mem_cons.1 hpd with h | h
      · rw [h]; exact hx
      · exact hd p hp h
theorem nodup_cs {a : AL} (h : nodupK a) : nodupK (cs a) := by
  unfold nodupK cs at *
  rw [List.map_map]; exact h
theorem drop_eq {a : AL} (h : InvA a) (u : Str) : consent_Consents_Drop ⟨some (cs a)⟩ u = some ((a.length : Int) - ((others u a).length : Int), ⟨some (cs (others u a))⟩) := by
  have hl := h.len
  have ho := others_len u a
  unfold consent_Consents_Drop maps_DeleteFunc_map_consent_pair_map_string_int_consent_pair_map_string_int__Consents_Drop_1
  have := dropf_loop u (cs a) (nodup_cs h.nd) (cs a).length (cs a) [] fuel (by rw [leftL_nil]) (by rw [List.length_map]; unfold fuel; omega) (nodup_cs h.nd) rfl (fun p _ hp => by cases hp)
  simp only
  rw [this, Option.bind_some, mlen_some, mlen_some, others_cs, List.length_map, List.length_map, w64 (by omega) (by omega)]
theorem invA_others {a : AL} (h : InvA a) (u : Str) : InvA (others u a) := ⟨nodupK_filter h.nd, by have := others_len u a; have := h.len; omega, fun p hp => h.good p (List.mem_filter.1 hp).1⟩
theorem find_others {V : Type} (u : Str) (k : consent_pair) (l : List (consent_pair × V)) : mfind k (others u l) = if k.user = u then none else mfind k l := by
  have := mfind_filter (k := k) (q := fun x : consent_pair => !(x.user == u)) (l := l)
  unfold others
  rw [this]
  by_cases e : k.user = u <;> simp [e]
/-! ### Scopes, Covers -/
def lv (a : AL) (u c : Str) (now : Int) : List Str := (live (lim now) (old a ⟨u, c⟩)).map Prod.fst
def scS (a : AL) (u c : Str) (now : Int) : List Str := sorted (lv a u c now)
theorem lv_sm {a : AL} (h : InvA a) (u c : Str) (now : Int) : sm (lv a u c now) := (live_good (h.old _) _).keys
theorem valid_eq {a : AL} (h : InvA a) (p : consent_pair) (now : Int) : consent_Consents_valid ⟨some (cs a)⟩ p now = some (sortS (lv a p.user p.client now)) := by
  have hF : mfind p (cs a) = (mfind p a).map some := find_mapV some _ a
  have hg := h.old p
  have hgl := hg.len
  have main := valid_loop (old a p) hg.nd (by omega) now (old a p).length [] [] fuel (by rw [leftL_nil]) (by unfold fuel; omega) (by rw [leftL_nil]; exact .refl _)
  unfold consent_Consents_valid mgetD
  simp only [Option.getD_some, hF, Option.bind_some]
  have e0 : sortS (lv a p.user p.client now) = sortS ((live (lim now) (old a p)).map Prod.fst) := rfl
  rw [e0, ← main]
  unfold S.old
  rcases opt_cases (mfind p a) with e | ⟨m, e⟩
  · rw [e]
    obtain ⟨k, hk⟩ : ∃ k, fuel = k + 1 := ⟨fuel - 1, by unfold fuel; omega⟩
    rw [hk]
    unfold consent_Consents_valid_L1
    rw [Option.map_none, Option.getD_none, mleft_none_some]
    rfl
  · rw [e]; rfl
theorem scopes_eq {a : AL} (h : InvA a) (u c : Str) (now : Int) : consent_Consents_Scopes ⟨some (cs a)⟩ u c now = some (scS a u c now) := by
  unfold consent_Consents_Scopes
  rw [valid_eq h, Option.bind_some]
  refine permAny_of fun p hp => ?_
  have hp' := hp.trans (sortS_perm _)
  have hs := lv_sm h u c now
  have hps : sm p := ⟨by rw [hp'.length_eq]; exact hs.1, fun s hs' => hs.2 s (hp'.mem_iff.1 hs')⟩
  rw [scope_Sorted_eq p hps, Option.bind_some]
  unfold scS
  rw [sorted_congr fun x => hp'.mem_iff]
theorem scS_sm {a : AL} (h : InvA a) (u c : Str) (now : Int) : sm (scS a u c now) := sorted_sm (lv_sm h u c now)
theorem covers_eq {a : AL} (h : InvA a) (u c : Str) {sc : List Str} (hs : sm sc) (now : Int) : consent_Consents_Covers ⟨some (cs a)⟩ u c sc now = some (within sc (scS a u c now)) := by
  unfold consent_Consents_Covers
  have hm : (some (cs a) : GMap consent_pair (GMap Str Int)).isNone = false := rfl
  simp only [hm, Bool.not_false, if_true, scopes_eq h, Option.bind_some, scope_Within_eq _ _ hs (scS_sm h u c now)]
/-! ### Clients -/
structure IsC (a : AL) (u : Str) (now : Int) (X : List Str) : Prop where
  asc : asc X
  mem : ∀ x, x ∈ X ↔ lv a u x now ≠ []
/-! ### the specification's record -/
abbrev toI (q : Str × Int) : ref32_item := ⟨q.1, q.2⟩
abbrev toR (p : consent_pair × IL) : ref32_pair := ⟨p.1.user, p.1.client, p.2.map toI⟩
/-- where a pair lies -/
structure At (l : AL) (u c : Str) (k : Nat) (d : IL) : Prop where
  get : l[k]? = some (⟨u, c⟩, d)
  pre : ∀ q ∈ l.take k, q.1 ≠ ⟨u, c⟩
theorem At.lt {l : AL} {u c : Str} {k : Nat} {d : IL} (h : At l u c k d) : k < l.length := (List.getElem?_eq_some_iff.1 h.get).1
theorem At.put {l : AL} {u c : Str} {k : Nat} {d x : IL} (h : At l u c k d) : setAt (l.map toR) (k : Int) ⟨u, c, x.map toI⟩ = (mputL ⟨u, c⟩ x l).map toR := by
  rw [put_set h.get h.pre, List.map_set]
  simp [setAt]
/-! ### both at once -/
structure RelA (a r : AL) : Prop where
  keys : a.map Prod.fst = r.map Prod.fst
  ent : ∀ k, (old a k).Perm (old r k)
theorem RelA.some {a r : AL} (h : RelA a r) (k : consent_pair) : (mfind k a).isSome = (mfind k r).isSome := by
  rw [Bool.eq_iff_iff, find_keys, find_keys, h.keys]
theorem RelA.len {a r : AL} (h : RelA a r) : a.length = r.length := by
  have := congrArg List.length h.keys
  simpa using this
theorem RelA.lv {a r : AL} (h : RelA a r) (u c : Str) (now : Int) : (lv a u c now).Perm (lv r u c now) := ((h.ent ⟨u, c⟩).filter _).map _
theorem RelA.scS {a r : AL} (h : RelA a r) (u c : Str) (now : Int) : scS a u c now = scS r u c now := sorted_congr fun x => (h.lv u c now).mem_iff
theorem RelA.grN {a r : AL} (h : RelA a r) (ha : InvA a) (u c : Str) (sc : List Str) (unt now : Int) : (grN a u c sc unt now).Perm (grN r u c sc unt now) :=
  (addAll_perm _ sc (live_good (ha.old _) _).nd ((h.ent ⟨u, c⟩).filter _)).2
theorem RelA.grE {a r : AL} (h : RelA a r) (ha : InvA a) (u c : Str) (sc : List Str) (unt now : Int) : grE a u c sc unt now = grE r u c sc unt now := by
  unfold S.grE
  rw [h.some, h.len, (h.grN ha u c sc unt now).length_eq]
theorem old_put (a : AL) (k j : consent_pair) (x : IL) : old (mputL k x a) j = if j = k then x else old a j := by
  unfold old
  rw [mfind_put]
  split <;> rfl
theorem old_del {a : AL} (hn : nodupK a) (k j : consent_pair) : old (mdelL k a) j = if j = k then [] else old a j := by
  unfold old
  rw [mfind_del hn]
  split <;> rfl
theorem old_others (a : AL) (u : Str) (j : consent_pair) : old (others u a) j = if j.user = u then [] else old a j := by
  unfold old
  rw [find_others]
  split <;> rfl
theorem RelA.gr {a r : AL} (h : RelA a r) (ha : InvA a) (u c : Str) (sc : List Str) (unt now : Int) : RelA (grL canonL a u c sc unt now) (grL id r u c sc unt now) := by
  unfold grL
  rw [h.grE ha]
  split
  · refine ⟨by rw [keys_put, keys_put, h.keys], fun k => ?_⟩
    rw [old_put, old_put]
    split
    · exact (canonL_perm _).trans (h.grN ha u c sc unt now)
    · exact h.ent k
  · exact h
theorem RelA.del {a r : AL} (h : RelA a r) (ha : InvA a) (hr : InvA r) (k : consent_pair) : RelA (mdelL k a) (mdelL k r) := by
  refine ⟨by rw [keys_del ha.nd, keys_del hr.nd, h.keys], fun j => ?_⟩
  rw [old_del ha.nd, old_del hr.nd]
  split
  · exact .refl _
  · exact h.ent j
theorem keys_others {V : Type} (u : Str) (l : List (consent_pair × V)) : (others u l).map Prod.fst = (l.map Prod.fst).filter fun k => !(k.user == u) := by
  unfold others
  rw [List.filter_map]; rfl
theorem RelA.others {a r : AL} (h : RelA a r) (u : Str) : RelA (others u a) (others u r) := by
  refine ⟨by rw [keys_others, keys_others, h.keys], fun j => ?_⟩
  rw [old_others, old_others]
  split
  · exact .refl _
  · exact h.ent j
/-! ### gates -/
def shortL (l : List Str) : Prop := l.length ≤ 20 ∧ ∀ s ∈ l, s.length ≤ 200
theorem shortL.sm {l : List Str} (h : shortL l) : sm l := ⟨by have := h.1; omega, fun s hs => by have := h.2 s hs; unfold fits; omega⟩
structure smallO (o : law32_Op) : Prop where
  usr : o.User.length ≤ 200
  cli : o.Client.length ≤ 200
  sc : shortL o.Scopes
theorem smallO.fu {o : law32_Op} (h : smallO o) : fits o.User := by have := h.usr; unfold fits; omega
theorem smallO.fc {o : law32_Op} (h : smallO o) : fits o.Client := by have := h.cli; unfold fits; omega
theorem light_two (r0 : List law32_Op → Int → Option (Bool)) (l : List law32_Op) (i : Nat) (o : law32_Op) (hi : l[i]? = some o) (hi' : i < 1000) (hs : o.Scopes.length ≤ 20) :
    ∀ (r : List Str) (k n : Nat), o.Scopes.drop k = r → r.length < n → (∀ s ∈ o.Scopes.take k, s.length ≤ 200) →
    law32_light_L2 r0 n l (i : Int) (k : Int) = some false ∨ (law32_light_L2 r0 n l (i : Int) (k : Int) = r0 l ((i + 1 : Nat) : Int) ∧ shortL o.Scopes) := by
  have hix : idx l (i : Int) = some o := by rw [idx_n, hi]
  intro r
  induction r with
  | nil =>
    intro k n hd hn ht
    obtain ⟨n, rfl⟩ : ∃ k, n = k + 1 := ⟨n - 1, by simp at hn; omega⟩
    have := drop_nil hd
    rw [List.take_of_length_le this] at ht
    unfold law32_light_L2
    rw [hix, Option.bind_some, if_neg (by simp; omega), w64n (show i < 9223372036854775807 by omega)]
    exact .inr ⟨rfl, hs, ht⟩
  | cons x r ih =>
    intro k n hd hn ht
    obtain ⟨n, rfl⟩ : ∃ k, n = k + 1 := ⟨n - 1, by simp at hn; omega⟩
    obtain ⟨h1, h2, h3⟩ := drop_more hd
    have hlt := drop_lt hd
    unfold law32_light_L2
    rw [hix, Option.bind_some, if_pos (by simp; omega), Option.bind_some, idx_n, h2, Option.bind_some]
    by_cases hx : x.length > 200
    · rw [if_pos (by simp; omega)]; exact .inl rfl
    · rw [if_neg (by simp; omega), w64n (show k < 9223372036854775807 by omega)]
      refine ih (k + 1) n h3 (by simp at hn; omega) fun s hs => ?_
      rw [take_more hd] at hs
      rcases List.mem_append.1 hs with hs | hs
      · exact ht s hs
      · simp at hs; subst hs; omega
theorem light_gate (l : List law32_Op) (hf : fits l) : law32_light l = some false ∨ (law32_light l = some true ∧ l.length ≤ 24 ∧ ∀ o ∈ l, smallO o) := by
  unfold fits at hf
  have key : ∀ (k i n : Nat), 24 - i = k → k < n → i ≤ 24 → i ≤ l.length → (∀ s ∈ l.take i, smallO s) → law32_light_L1 n l (i : Int) = some false ∨ (law32_light_L1 n l (i : Int) = some true ∧ l.length ≤ 24 ∧ ∀ o ∈ l, smallO o) := by
    intro k
    induction k with
    | zero =>
      intro i n hk hn h20 hi ht
      obtain ⟨n, rfl⟩ : ∃ k, n = k + 1 := ⟨n - 1, by omega⟩
      have e : i = 24 := by omega
      subst e
      unfold law32_light_L1
      rw [if_neg (by simp)]
      by_cases h : l.length ≤ 24
      · rw [List.take_of_length_le h] at ht
        exact .inr ⟨by simp; omega, h, ht⟩
      · exact .inl (by simp; omega)
    | succ k ih =>
      intro i n hk hn h20 hi ht
      obtain ⟨n, rfl⟩ : ∃ k, n = k + 1 := ⟨n - 1, by omega⟩
      unfold law32_light_L1
      by_cases hlt : i < l.length
      · have h2 : l[i]? = some l[i] := List.getElem?_eq_getElem hlt
        have hix : idx l (i : Int) = some l[i] := by rw [idx_n, h2]
        rw [if_pos (by simp; omega)]
        simp only [hix, Option.bind_some]
        by_cases h3 : l[i].User.length > 200
        · rw [if_pos (by simp; omega), Option.bind_some, if_pos rfl, Option.bind_some, if_pos rfl]; exact .inl rfl
        rw [if_neg (by simp; omega), Option.bind_some]
        by_cases h4 : l[i].Client.length > 200
        · rw [if_pos (by simp; omega), Option.bind_some, if_pos rfl]; exact .inl rfl
        rw [if_neg (by simp; omega), Option.bind_some]
        by_cases h5 : l[i].Scopes.length > 20
        · rw [if_pos (by simp; omega)]; exact .inl rfl
        rw [if_neg (by simp; omega)]
        have hF : l[i].Scopes.length < fuel := by unfold fuel; omega
        rcases light_two (law32_light_L1 n) l i l[i] h2 (by omega) (by omega) l[i].Scopes 0 fuel rfl hF (by simp) with h6 | ⟨h6, h7⟩
        · exact .inl h6
        · have h6' : law32_light_L2 (law32_light_L1 n) fuel l (i : Int) 0 = law32_light_L1 n l ((i + 1 : Nat) : Int) := h6
          rw [h6']
          refine ih (i + 1) n (by omega) (by omega) (by omega) (by omega) fun s hs => ?_
          rw [List.take_add_one, h2] at hs
          rcases List.mem_append.1 hs with hs | hs
          · exact ht s hs
          · simp at hs; subst hs; exact ⟨by omega, by omega, h7⟩
      · rw [if_neg (by simp; omega)]
        rw [List.take_of_length_le (by omega)] at ht
        by_cases h : l.length ≤ 24
        · exact .inr ⟨by simp; omega, h, ht⟩
        · exact .inl (by simp; omega)
  exact key 24 0 fuel rfl (by unfold fuel; omega) (by omega) (by omega) (by simp)
/-! ### one call -/
def doI (a : AL) (o : law32_Op) : Int :=
  if o.Call = 0 then grE a o.User o.Client o.Scopes o.Until o.Now else if o.Call = 1 then (if (mfind (⟨o.User, o.Client⟩ : consent_pair) a).isSome then 1 else 0)
  else if o.Call = 2 then (a.length : Int) - ((others o.User a).length : Int) else if within o.Scopes (scS a o.User o.Client o.Now) then 1 else 0
def doL (f : IL → IL) (a : AL) (o : law32_Op) : AL :=
  if o.Call = 0 then grL f a o.User o.Client o.Scopes o.Until o.Now else if o.Call = 1 then mdelL ⟨o.User, o.Client⟩ a else if o.Call = 2 then others o.User a else a
theorem inv_do {a : AL} (h : InvA a) (f : IL → IL) (hf : ∀ m : IL, m.Perm (f m)) (o : law32_Op) : InvA (doL f a o) := by
  unfold doL
  split
  · exact invA_gr h f hf _ _ _ _ _
  · split
    · exact invA_del h _
    · split
      · exact invA_others h _
      · exact h
theorem inv_doC {a : AL} (h : InvA a) (o : law32_Op) : InvA (doL canonL a o) := inv_do h canonL (fun m => (canonL_perm m).symm) o
theorem yes_eq (b : Bool) : law32_yes b = some (if b then 1 else 0) := by cases b <;> rfl
theorem do_eq {a : AL} (h : InvA a) {o : law32_Op} (ho : smallO o) : law32_do ⟨some (cs a)⟩ o = some (doI a o, ⟨some (cs (doL canonL a o))⟩) := by
  unfold law32_do doI doL
  by_cases k0 : o.Call = 0
  · rw [if_pos (by simpa using k0), if_pos k0, if_pos k0, grant_eq h _ _ _ _ ho.fu ho.fc ho.sc.sm, Option.bind_some]
  rw [if_neg (by simpa using k0), if_neg k0, if_neg k0]
  by_cases k1 : o.Call = 1
  · rw [if_pos (by simpa using k1), if_pos k1, if_pos k1, revoke_eq, Option.bind_some, yes_eq, Option.bind_some]
  rw [if_neg (by simpa using k1), if_neg k1, if_neg k1]
  by_cases k2 : o.Call = 2
  · rw [if_pos (by simpa using k2), if_pos k2, if_pos k2, drop_eq h, Option.bind_some]
  rw [if_neg (by simpa using k2), if_neg k2, if_neg k2, covers_eq h _ _ ho.sc.sm, Option.bind_some, yes_eq, Option.bind_some]
theorem RelA.doI {a r : AL} (h : RelA a r) (ha : InvA a) (o : law32_Op) : doI a o = doI r o := by
  unfold S.doI
  rw [h.grE ha, h.some, h.len, (h.others o.User).len, h.scS]
theorem RelA.doL {a r : AL} (h : RelA a r) (ha : InvA a) (hr : InvA r) (o : law32_Op) : RelA (doL canonL a o) (doL id r o) := by
  unfold S.doL
  split
  · exact h.gr ha _ _ _ _ _
  · split
    · exact h.del ha hr _
    · split
      · exact h.others _
      · exact h
theorem same_self (l : List Str) (h : l.length ≤ 1000) : ref03_Same l l = some true := by rw [ref03_Same_eq l l (by unfold fits; omega)]; simp
/-! ### other pairs -/
theorem grE_old {a d : AL} (hk : ∀ k, mfind (⟨k.user, k.client⟩ : consent_pair) a = mfind k a) (u c : Str) (sc : List Str) (unt now : Int) (h1 : mfind (⟨u, c⟩ : consent_pair) a = mfind ⟨u, c⟩ d) (ha : a.length < 256) (hd : d.length < 256) :
    grE a u c sc unt now = grE d u c sc unt now ∧ grN a u c sc unt now = grN d u c sc unt now := by
  have e : grN a u c sc unt now = grN d u c sc unt now := by unfold grN old; rw [h1]
  refine ⟨?_, e⟩
  unfold grE
  rw [e, h1]
  by_cases c1 : (!word u || !word c) = true
  · rw [if_pos c1, if_pos c1]
  rw [if_neg c1, if_neg c1]
  by_cases c2 : ck sc ≠ 0
  · rw [if_pos c2, if_pos c2]
  rw [if_neg c2, if_neg c2]
  by_cases c3 : sc = []
  · rw [if_pos c3, if_pos c3]
  rw [if_neg c3, if_neg c3]
  by_cases c4 : lim unt ≤ lim now
  · rw [if_pos c4, if_pos c4]
  rw [if_neg c4, if_neg c4, if_neg (show ¬ ((mfind (⟨u, c⟩ : consent_pair) d).isSome = false ∧ 256 ≤ a.length) from fun h => by omega), if_neg (show ¬ ((mfind (⟨u, c⟩ : consent_pair) d).isSome = false ∧ 256 ≤ d.length) from fun h => by omega)]
theorem len_do {a : AL} (h : InvA a) (o : law32_Op) : (doL canonL a o).length ≤ a.length + 1 := by
  unfold doL grL
  split
  · split
    · rw [len_put]; split <;> omega
    · omega
  · split
    · have := len_del (k := (⟨o.User, o.Client⟩ : consent_pair)) h.nd; omega
    · split
      · have := others_len o.User a; omega
      · omega
/-- a call for another pair -/
theorem find_do_ne {a : AL} (h : InvA a) (o : law32_Op) (u c : Str) (hn : ¬ (o.User = u ∧ (o.Client = c ∨ o.Call = 2))) : mfind (⟨u, c⟩ : consent_pair) (doL canonL a o) = mfind ⟨u, c⟩ a := by
  unfold doL grL
  split
  · split
    · rw [mfind_put_ne]
      intro e
      simp only [consent_pair.mk.injEq] at e
      exact hn ⟨e.1.symm, .inl e.2.symm⟩
    · rfl
  · split
    · rw [mfind_del h.nd, if_neg]
      intro e
      simp only [consent_pair.mk.injEq] at e
      exact hn ⟨e.1.symm, .inl e.2.symm⟩
    · split
      · rename_i k2
        rw [find_others, if_neg]
        intro e
        exact hn ⟨e.symm, .inr k2⟩
      · rfl
theorem find_do_eq {a d : AL} (ha : InvA a) (hd : InvA d) (hal : a.length < 256) (hdl : d.length < 256) (o : law32_Op) (u c : Str) (h : mfind (⟨u, c⟩ : consent_pair) a = mfind ⟨u, c⟩ d) (hu : o.User = u) (hc : o.Client = c ∨ o.Call = 2) :
    mfind (⟨u, c⟩ : consent_pair) (doL canonL a o) = mfind ⟨u, c⟩ (doL canonL d o) := by
  subst hu
  unfold doL
  by_cases k0 : o.Call = 0
  · rw [if_pos k0, if_pos k0]
    have hcc : o.Client = c := by rcases hc with hc | hc; exact hc; omega
    subst hcc
    obtain ⟨e1, e2⟩ := grE_old (a := a) (d := d) (fun k => rfl) o.User o.Client o.Scopes o.Until o.Now h hal hdl
    unfold grL
    rw [e1, e2]
    split
    · rw [mfind_put_self, mfind_put_self]
    · exact h
  rw [if_neg k0, if_neg k0]
  by_cases k1 : o.Call = 1
  · rw [if_pos k1, if_pos k1]
    have hcc : o.Client = c := by rcases hc with hc | hc; exact hc; omega
    subst hcc
    rw [mfind_del ha.nd, mfind_del hd.nd, if_pos rfl, if_pos rfl]
  rw [if_neg k1, if_neg k1]
  by_cases k2 : o.Call = 2
  · rw [if_pos k2, if_pos k2, find_others, find_others, if_pos rfl, if_pos rfl]
  · rw [if_neg k2, if_neg k2]; exact h
theorem apart_loop (ops : List law32_Op) (hf : ops.length ≤ 24) (ho : ∀ o ∈ ops, smallO o) (u c : Str) (at_ : Int) :
    ∀ (s : List law32_Op) (i n : Nat) (a d : AL), ops.drop i = s → s.length < n → i ≤ ops.length → InvA a → InvA d → a.length ≤ i → d.length ≤ i → mfind (⟨u, c⟩ : consent_pair) a = mfind ⟨u, c⟩ d →
    law32_ConsentApart_L1 n ops u c at_ ⟨some (cs a)⟩ ⟨some (cs d)⟩ (i : Int) = some true := by
  intro s
  induction s with
  | nil =>
    intro i n a d hdd hn hi ha hd hal hdl h
    obtain ⟨n, rfl⟩ : ∃ k, n = k + 1 := ⟨n - 1, by simp at hn; omega⟩
    have := drop_nil hdd
    have hsm := scS_sm hd u c at_
    have hsc : scS a u c at_ = scS d u c at_ := by unfold scS lv old; rw [h]
    unfold law32_ConsentApart_L1
    rw [if_neg (by simp; omega), scopes_eq ha, scopes_eq hd, Option.bind_some, Option.bind_some, hsc, same_self _ hsm.1, Option.bind_some, if_pos rfl, awake32]; rfl
  | cons o s ih =>
    intro i n a d hdd hn hi ha hd hal hdl h
    obtain ⟨n, rfl⟩ : ∃ k, n = k + 1 := ⟨n - 1, by simp at hn; omega⟩
    obtain ⟨q1, q2, q3⟩ := drop_more hdd
    have hlt := drop_lt hdd
    have hoo := ho o (List.mem_of_getElem? q2)
    have hix : idx ops (i : Int) = some o := by rw [idx_n, q2]
    have la := len_do ha o
    have ld := len_do hd o
    have e2 : ∀ X : Option Bool, (X.bind fun z => some z) = X := fun X => by cases X <;> rfl
    have hz : (if (o.User == u) = true then if (o.Client == c) = true then some true else some (o.Call == 2) else some false) = some ((o.User == u) && ((o.Client == c) || (o.Call == 2))) := by
      cases o.User == u <;> cases o.Client == c <;> rfl
    unfold law32_ConsentApart_L1
    rw [if_pos (by simp; omega)]
    simp only [hix, Option.bind_some, do_eq ha hoo, do_eq hd hoo, e2, hz]
    unfold law32_ConsentApart_B2
    rw [w64n (show i < 9223372036854775807 by omega)]
    by_cases hc : ((o.User == u) && ((o.Client == c) || (o.Call == 2))) = true
    · rw [if_pos hc]
      simp only [Bool.and_eq_true, Bool.or_eq_true, beq_iff_eq] at hc
      exact ih (i + 1) n _ _ q3 (by simp at hn; omega) (by omega) (inv_doC ha o) (inv_doC hd o) (by omega) (by omega) (find_do_eq ha hd (by omega) (by omega) o u c h hc.1 hc.2)
    · rw [if_neg hc]
      simp only [Bool.and_eq_true, Bool.or_eq_true, beq_iff_eq] at hc
      exact ih (i + 1) n _ _ q3 (by simp at hn; omega) (by omega) (inv_doC ha o) hd (by omega) (by omega) ((find_do_ne ha o u c hc).trans h)
theorem apart_true (ops : List law32_Op) (u c : Str) (at_ : Int) (hf : fits ops) : law32_ConsentApart ops u c at_ = some true := by
  unfold law32_ConsentApart
  rcases light_gate ops hf with h | ⟨h, hm, hoo⟩
  · simp only [h, Option.bind_some, Bool.not_false, if_true, Bool.true_or, awake32]
  rw [h, Option.bind_some]
  by_cases h3 : u.length > 200
  · rw [if_pos (by simp; omega), awake32, Option.bind_some]
  by_cases h4 : c.length > 200
  · rw [if_pos (by simp; omega), awake32, Option.bind_some]
  rw [if_neg (by simp; omega)]
  show (some (consent_Consents.mk (some []))).bind (fun _ => (some (consent_Consents.mk (some []))).bind _) = _
  rw [Option.bind_some, Option.bind_some]
  exact apart_loop ops hm hoo u c at_ ops 0 fuel [] [] rfl (by unfold fuel; omega) (by omega) invA_nil invA_nil (by simp) (by simp) rfl
def nd : List Str → Bool
  | [] => true
  | x :: r => !r.contains x && nd r
end Go.KW.S
