/- Own work: a part of the proofs of this seat. -/
import Derived.Test.YtibmfjehbmdbkaaKwPlain
import Derived.Test.YtibmfjehbmdbkaaKwMapP
import Derived.Test.YtibmfjehbmdbkaaKwHS
import Derived.KernelRfl
import Derived.Lib.IndexMore
import Derived.Lib.CountLaws
import Derived.Laws.RangeString
import Derived.Laws.RangeAny
set_option linter.unusedVariables false
set_option linter.unusedSimpArgs false
namespace Go.KW.S
open Go Go.KW
/-! ### words -/
def isW (c : Int) : Bool := (((decide (c ≥ 65) && decide (c ≤ 90)) || (decide (c ≥ 97) && decide (c ≤ 122))) || (decide (c ≥ 48) && decide (c ≤ 57))) || c == 45 || c == 95 || c == 46 || c == 58
def word (s : Str) : Bool := s.all (fun u => isW u.toNat) && (decide (1 ≤ s.length) && decide (s.length ≤ 64))

theorem fold_Word_1_eq (c : Int) : fold_Word_1 c = some (isW c) := by
  simp only [fold_Word_1, fold_letter, fold_upper, fold_digit, isW, Option.bind_some]
  cases (decide (c ≥ 65) && decide (c ≤ 90)) <;> cases (decide (c ≥ 97) && decide (c ≤ 122)) <;> simp
theorem fold_made_eq (s : Str) (hs : fits s) : fold_made__Word_1 s = some (word s) := by
  have key : ∀ (r : Str) (i n : Nat), s.drop i = r → i ≤ s.length → r.length < n →
      fold_made__Word_1_L1 n s (s.length : Int) (i : Int) = some (r.all (fun u => isW u.toNat) && (decide (1 ≤ s.length) && decide (s.length ≤ 64))) := by
    intro r
    induction r with
    | nil =>
      intro i n hd hi hn
      obtain ⟨n, rfl⟩ : ∃ k, n = k + 1 := ⟨n - 1, by simp at hn; omega⟩
      have := drop_nil hd
      simp only [fold_made__Word_1_L1, show ¬ ((i : Int) < s.length) by omega, decide_false, Bool.false_eq_true, if_false, List.all_nil, Bool.true_and, Option.some.injEq]
      rw [Bool.eq_iff_iff]; cases s <;> simp <;> omega
    | cons u r ih =>
      intro i n hd hi hn
      obtain ⟨n, rfl⟩ : ∃ k, n = k + 1 := ⟨n - 1, by simp at hn; omega⟩
      obtain ⟨h1, h2, h3⟩ := drop_more hd
      have hlt := drop_lt hd
      have := hs; unfold fits at this
      simp only [fold_made__Word_1_L1, show ((i : Int) < s.length) by omega, decide_true, if_true, inb_n, h1, chk_true, byteAt_some h2, fold_Word_1_eq, Option.bind_some, w64n (show i < 9223372036854775807 by omega), List.all_cons]
      cases isW u.toNat with
      | false => simp
      | true => simpa using ih (i + 1) n h3 (by omega) (by simp at hn; omega)
  exact key s 0 fuel rfl (by omega) (fuel_pos hs)
theorem fold_Word_eq (s : Str) (hs : fits s) : fold_Word s = some (word s) := by
  simp [fold_Word, fold_made_eq s hs]

/-- an instant by Rule 6 -/
def lim (t : Int) : Int := gmin (gmax t 0) 1099511627776
theorem lim_range (t : Int) : 0 ≤ lim t ∧ lim t ≤ 1099511627776 := by unfold lim gmin gmax; split <;> split <;> omega
theorem lim_eq (t : Int) : gmax 0 (gmin t 1099511627776) = lim t := by unfold lim gmin gmax; repeat' split <;> omega
/-- two dots in a row -/
def dots : Str → Bool
  | a :: b :: r => (a == 46 && b == 46) || dots (b :: r)
  | _ => false
def valid (s : Str) : Bool := word s && !(s.head? == some 46) && !(s.getLast? == some 46) && !dots s
theorem contains_dots (s : Str) : Lib.contains s [46, 46] = dots s := by
  have key : ∀ s : Str, (decide (0 ≤ Lib.index s [46, 46]) = dots s) ∧ -1 ≤ Lib.index s [46, 46] := by
    intro s
    induction s with
    | nil => exact ⟨rfl, by decide⟩
    | cons a r ih =>
      obtain ⟨ih1, ih2⟩ := ih
      have hi : Lib.index (a :: r) [46, 46] = if ([46, 46] : Str).isPrefixOf (a :: r) then 0 else if Lib.index r [46, 46] == -1 then -1 else Lib.index r [46, 46] + 1 := by
        simp only [Lib.index]
      have hp : ([46, 46] : Str).isPrefixOf (a :: r) = (a == 46 && r.head? == some 46) := by
        cases r with
        | nil => simp [List.isPrefixOf]
        | cons b r => simp [List.isPrefixOf, Bool.beq_comm]
      have hd : dots (a :: r) = ((a == 46 && r.head? == some 46) || dots r) := by
        cases r with
        | nil => simp [dots]
        | cons b r => simp [dots]
      rw [hi, hp, hd, ← ih1]
      cases (a == 46 && r.head? == some 46) with
      | true => simp
      | false =>
        simp only [Bool.false_eq_true, if_false, Bool.false_or]
        by_cases h : Lib.index r [46, 46] = -1
        · rw [h]; simp
        · have h' : (Lib.index r [46, 46] == -1) = false := by simpa using h
          rw [h']
          simp only [Bool.false_eq_true, if_false]
          refine ⟨?_, by omega⟩
          rw [Bool.eq_iff_iff]; simp; omega
  exact (key s).1
theorem u8_eq (u : UInt8) (k : Nat) (hk : k < 256) : ((u.toNat : Int) == (k : Int)) = (u == UInt8.ofNat k) := by
  rw [Bool.eq_iff_iff, beq_iff_eq, beq_iff_eq]
  constructor
  · intro h
    have : u.toNat = k := by omega
    exact UInt8.toNat_inj.1 (by rw [this, UInt8.toNat_ofNat_of_lt' (by simpa using hk)])
  · rintro rfl
    rw [UInt8.toNat_ofNat_of_lt' (by simpa using hk)]
theorem u8_46 (u : UInt8) : ((u.toNat : Int) == 46) = (u == 46) := u8_eq u 46 (by decide)
theorem byteAt_first {s : Str} (h : 1 ≤ s.length) : (byteAt s 0 == 46) = (s.head? == some 46) := by
  cases s with
  | nil => simp at h
  | cons a r =>
    have : byteAt (a :: r) 0 = (a.toNat : Int) := by simp [byteAt]
    rw [this, u8_46]; simp
theorem byteAt_end {s : Str} (h : 1 ≤ s.length) : (byteAt s (((s.length - 1 : Nat) : Int)) == 46) = (s.getLast? == some 46) := by
  have h1 : s[s.length - 1]? = some s[s.length - 1] := List.getElem?_eq_getElem (by omega)
  rw [byteAt_some h1, u8_46, List.getLast?_eq_getElem?, h1]; simp
theorem word_len {s : Str} (h : word s = true) : 1 ≤ s.length ∧ s.length ≤ 64 := by
  simp only [word, Bool.and_eq_true, decide_eq_true_eq] at h; exact h.2
theorem word_fits {s : Str} (h : word s = true) : fits s := by have := word_len h; unfold fits; omega
theorem last_ix {s : Str} (h : 1 ≤ s.length ∧ s.length ≤ 64) : IntKind.i64.wrap ((s.length : Int) - 1) = ((s.length - 1 : Nat) : Int) := by
  rw [w64 (by omega) (by omega)]; omega
theorem inb_0 {n : Nat} (h : 1 ≤ n) : inb 0 n = true := by simp [inb] <;> omega
theorem scope_valid_eq (s : Str) (hs : fits s) : scope_valid s = some (valid s) := by
  unfold scope_valid valid
  rw [fold_Word_eq s hs, Option.bind_some]
  cases hw : word s with
  | false => simp
  | true =>
    have hl := word_len hw
    simp only [if_true, inb_0 hl.1, chk_true, Option.bind_some, bne, byteAt_first hl.1, last_ix hl, Bool.true_and]
    cases s.head? == some 46 with
    | true => simp
    | false =>
      have h2 : inb ((s.length - 1 : Nat) : Int) s.length = true := by rw [inb_n]; simp; omega
      simp only [Bool.not_false, if_true, h2, chk_true, byteAt_end hl.1, Option.bind_some, Bool.true_and]
      cases s.getLast? == some 46 with
      | true => simp
      | false =>
        have h3 : decide (s.length < 4294967281) = true := by simp; omega
        simp only [Bool.not_false, if_true, lib_Contains, h3, chk_true, Option.bind_some, contains_dots, Bool.true_and]
/-- where a string is first found -/
def ixOf (v : Str) : Nat → List Str → Int
  | _, [] => -1
  | i, x :: r => if v == x then i else ixOf v (i + 1) r
theorem slices_Index_eq (l : List Str) (v : Str) (hl : fits l) : slices_Index_string_string l v = some (ixOf v 0 l) := by
  have key : ∀ (r : List Str) (i n : Nat), l.drop i = r → i ≤ l.length → r.length < n →
      slices_Index_string_string_L1 n l v (l.length : Int) (i : Int) = some (ixOf v i r) := by
    intro r
    induction r with
    | nil =>
      intro i n hd hi hn
      obtain ⟨n, rfl⟩ : ∃ k, n = k + 1 := ⟨n - 1, by simp at hn; omega⟩
      have := drop_nil hd
      simp [slices_Index_string_string_L1, show ¬ ((i : Int) < l.length) by omega, ixOf]
    | cons x r ih =>
      intro i n hd hi hn
      obtain ⟨n, rfl⟩ : ∃ k, n = k + 1 := ⟨n - 1, by simp at hn; omega⟩
      obtain ⟨h1, h2, h3⟩ := drop_more hd
      have hlt := drop_lt hd
      have := hl; unfold fits at this
      simp only [slices_Index_string_string_L1, show ((i : Int) < l.length) by omega, decide_true, if_true, idx_n, h2, Option.bind_some, w64n (show i < 9223372036854775807 by omega), ih (i + 1) n h3 (by omega) (by simp at hn; omega), ixOf]
      cases v == x <;> simp
  exact key l 0 fuel rfl (by omega) (fuel_pos hl)
theorem ixOf_pos (v : Str) : ∀ (r : List Str) (i : Nat), decide (ixOf v i r ≥ 0) = r.contains v
  | [], _ => by simp [ixOf]
  | x :: r, i => by
    unfold ixOf
    rw [List.contains_cons]
    cases h : v == x with
    | true => simp
    | false => simpa using ixOf_pos v r (i + 1)
theorem slices_Contains_eq (l : List Str) (v : Str) (hl : fits l) : slices_Contains_string_string l v = some (l.contains v) := by
  simp only [slices_Contains_string_string, slices_Index_eq l v hl, Option.bind_some, ixOf_pos]
/-- the first error of a list of scopes, p being those before -/
def ckL : List Str → List Str → Int
  | _, [] => 0
  | p, x :: r => if !valid x then 5 else if p.contains x then 7 else ckL (p ++ [x]) r
def ck (l : List Str) : Int := if decide ((l.length : Int) > 16) then 3 else ckL [] l
/-- each string can be held -/
def fitsAll (l : List Str) : Prop := ∀ s ∈ l, fits s
theorem fitsAll_at {l : List Str} (h : fitsAll l) {i : Nat} {x : Str} (hx : l[i]? = some x) : fits x := h x (List.mem_of_getElem? hx)
theorem take_len {T : Type} {l : List T} {i : Nat} (h : i < l.length) : (l.take i).length = i := by simp; omega
theorem scope_Check_eq (l : List Str) (hl : fitsAll l) : scope_Check l = some (ck l) := by
  unfold scope_Check ck
  by_cases h16 : (l.length : Int) > 16
  · simp [h16]
  · simp only [h16, decide_false, Bool.false_eq_true, if_false]
    have key : ∀ (r : List Str) (i n : Nat), l.drop i = r → i ≤ l.length → r.length < n → scope_Check_L1 n l l (l.length : Int) (i : Int) = some (ckL (l.take i) r) := by
      intro r
      induction r with
      | nil =>
        intro i n hd hi hn
        obtain ⟨n, rfl⟩ : ∃ k, n = k + 1 := ⟨n - 1, by simp at hn; omega⟩
        have := drop_nil hd
        simp [scope_Check_L1, show ¬ ((i : Int) < l.length) by omega, ckL]
      | cons x r ih =>
        intro i n hd hi hn
        obtain ⟨n, rfl⟩ : ∃ k, n = k + 1 := ⟨n - 1, by simp at hn; omega⟩
        obtain ⟨h1, h2, h3⟩ := drop_more hd
        have hlt := drop_lt hd
        have hi' : inc 0 (i : Int) l.length = true := by rw [inc_0]; simp; omega
        have hft : fits (l.take i) := by unfold fits; rw [take_len hlt]; omega
        simp only [scope_Check_L1, show ((i : Int) < l.length) by omega, decide_true, if_true, idx_n, h2, Option.bind_some, scope_valid_eq x (fitsAll_at hl h2), hi', chk_true, cut_0, slices_Contains_eq _ _ hft, w64n (show i < 9223372036854775807 by omega), ih (i + 1) n h3 (by omega) (by simp at hn; omega), ckL, take_more hd]
        cases valid x <;> cases (l.take i).contains x <;> simp
    exact key l 0 fuel rfl (by omega) (by unfold fuel; omega)
theorem ckL_ok {l : List Str} : ∀ p : List Str, ckL p l = 0 → ∀ s ∈ l, valid s = true := by
  induction l with
  | nil => intro p _ s hs; cases hs
  | cons x r ih =>
    intro p h s hs
    unfold ckL at h
    cases hv : valid x with
    | false => simp [hv] at h
    | true =>
      simp only [hv, Bool.not_true, Bool.false_eq_true, if_false] at h
      split at h
      · cases h
      · rcases List.mem_cons.1 hs with rfl | hs
        · exact hv
        · exact ih _ h s hs
theorem valid_word {s : Str} (h : valid s = true) : word s = true := by simp only [valid, Bool.and_eq_true] at h; exact h.1.1.1
theorem ck_ok {l : List Str} (h : ck l = 0) : l.length ≤ 16 ∧ ckL [] l = 0 := by
  unfold ck at h
  by_cases h16 : (l.length : Int) > 16
  · simp [h16] at h
  · simp only [h16, decide_false, Bool.false_eq_true, if_false] at h
    exact ⟨by omega, h⟩
/-! ### one scope within another -/
def pre (a b : Str) : Bool := decide (b.length > a.length) && (b.take (a.length + 1) == a ++ [46])
def imp (a b : Str) : Bool := (valid a && valid b) && (a == b || pre a b)
theorem valid_len {s : Str} (h : valid s = true) : 1 ≤ s.length ∧ s.length ≤ 64 := word_len (valid_word h)
theorem pre_prefix (a b : Str) (hl : a.length ≤ 64) (hb : b.length ≤ 64) : strings_HasPrefix b (a ++ [46]) = some (pre a b) := by
  have e : (a ++ [46]).length = a.length + 1 := by simp
  unfold strings_HasPrefix internal_stringslite_HasPrefix pre
  rw [e]
  by_cases h : b.length > a.length
  · have h1 : inc 0 ((a.length + 1 : Nat) : Int) b.length = true := by rw [inc_0]; simp; omega
    simp only [show ((b.length : Int) ≥ ((a.length + 1 : Nat) : Int)) by omega, decide_true, if_true, h1, chk_true, cut_0, Option.bind_some, h, Bool.true_and]
  · have h0 : decide ((b.length : Int) ≥ ((a.length + 1 : Nat) : Int)) = false := by simp; omega
    simp only [h0, Bool.false_eq_true, if_false, Option.bind_some, h, decide_false, Bool.false_and]
theorem scope_Implies_eq (a b : Str) (ha : fits a) (hb : fits b) : scope_Implies a b = some (imp a b) := by
  unfold scope_Implies imp
  rw [scope_valid_eq a ha, scope_valid_eq b hb, Option.bind_some]
  cases va : valid a with
  | false => simp
  | true =>
    cases vb : valid b with
    | false => simp
    | true =>
      have la := valid_len va
      have lb := valid_len vb
      have hf : fitS a [46] = true := by simp [fitS]; omega
      simp only [if_true, Option.bind_some, Bool.true_and, hf, chk_true, pre_prefix a b la.2 lb.2]
      cases a == b <;> simp
def cov (l : List Str) (s : Str) : Bool := l.any fun t => imp t s
def within (a b : List Str) : Bool := a.all fun x => cov b x
/-- few enough strings that can be held -/
def sm (l : List Str) : Prop := l.length ≤ 1000 ∧ fitsAll l
theorem sm.at {l : List Str} (h : sm l) {i : Nat} {x : Str} (hx : l[i]? = some x) : fits x := fitsAll_at h.2 hx
theorem scope_covered_eq (s : Str) (l : List Str) (hs : fits s) (hl : sm l) : scope_covered s l = some (cov l s) := by
  have key : ∀ (r : List Str) (i n : Nat), l.drop i = r → i ≤ l.length → r.length < n → scope_covered_L1 n s l (l.length : Int) (i : Int) = some (r.any fun t => imp t s) := by
    have := hl.1
    intro r
    induction r with
    | nil =>
      intro i n hd hi hn
      obtain ⟨n, rfl⟩ : ∃ k, n = k + 1 := ⟨n - 1, by simp at hn; omega⟩
      have := drop_nil hd
      simp [scope_covered_L1, show ¬ ((i : Int) < l.length) by omega]
    | cons x r ih =>
      intro i n hd hi hn
      obtain ⟨n, rfl⟩ : ∃ k, n = k + 1 := ⟨n - 1, by simp at hn; omega⟩
      obtain ⟨h1, h2, h3⟩ := drop_more hd
      have hlt := drop_lt hd
      simp only [scope_covered_L1, show ((i : Int) < l.length) by omega, decide_true, if_true, idx_n, h2, Option.bind_some, scope_Implies_eq x s (hl.at h2) hs, w64n (show i < 9223372036854775807 by omega), ih (i + 1) n h3 (by omega) (by simp at hn; omega), List.any_cons]
      cases imp x s <;> simp
  exact key l 0 fuel rfl (by omega) (by have := hl.1; unfold fuel; omega)
theorem scope_Within_eq (a b : List Str) (ha : sm a) (hb : sm b) : scope_Within a b = some (within a b) := by
  have key : ∀ (r : List Str) (i n : Nat), a.drop i = r → i ≤ a.length → r.length < n → scope_Within_L1 n b a (a.length : Int) (i : Int) = some (r.all fun x => cov b x) := by
    have := ha.1
    intro r
    induction r with
    | nil =>
      intro i n hd hi hn
      obtain ⟨n, rfl⟩ : ∃ k, n = k + 1 := ⟨n - 1, by simp at hn; omega⟩
      have := drop_nil hd
      simp [scope_Within_L1, show ¬ ((i : Int) < a.length) by omega]
    | cons x r ih =>
      intro i n hd hi hn
      obtain ⟨n, rfl⟩ : ∃ k, n = k + 1 := ⟨n - 1, by simp at hn; omega⟩
      obtain ⟨h1, h2, h3⟩ := drop_more hd
      have hlt := drop_lt hd
      simp only [scope_Within_L1, show ((i : Int) < a.length) by omega, decide_true, if_true, idx_n, h2, Option.bind_some, scope_covered_eq x b (ha.at h2) hb, w64n (show i < 9223372036854775807 by omega), ih (i + 1) n h3 (by omega) (by simp at hn; omega), List.all_cons]
      cases cov b x <;> simp
  exact key a 0 fuel rfl (by omega) (by have := ha.1; unfold fuel; omega)
/-- strictly ascending -/
def asc (l : List Str) : Prop := l.Pairwise (· < ·)
/-- a scope of the list that no other one includes -/
def least (l : List Str) (x : Str) : Bool := valid x && l.all fun t => t == x || !imp t x
def sel (l : List Str) : List Str → List Str → List Str
  | _, [] => []
  | p, x :: r => if !valid x || p.contains x then sel l (p ++ [x]) r else if l.any (fun t => !(t == x) && imp t x) then sel l (p ++ [x]) r else x :: sel l (p ++ [x]) r
def sorted (l : List Str) : List Str := sortS (sel l [] l)
theorem least_any (l : List Str) (x : Str) : (l.all fun t => t == x || !imp t x) = !(l.any (fun t => !(t == x) && imp t x)) := by
  induction l with
  | nil => rfl
  | cons y l ih => simp only [List.all_cons, List.any_cons, ih]; cases y == x <;> cases imp y x <;> simp
theorem mem_sel (l : List Str) (x : Str) : ∀ (r p : List Str), x ∈ sel l p r ↔ x ∈ r ∧ x ∉ p ∧ least l x = true := by
  intro r
  induction r with
  | nil => intro p; simp [sel]
  | cons y r ih =>
    intro p
    have hc : p.contains y = true ↔ y ∈ p := by simp
    unfold sel
    by_cases h1 : (!valid y || p.contains y) = true
    · rw [if_pos h1, ih]
      simp only [List.mem_append, List.mem_cons, List.not_mem_nil, or_false, not_or]
      constructor
      · rintro ⟨a, ⟨b, c⟩, d⟩; exact ⟨.inr a, b, d⟩
      · rintro ⟨a, b, d⟩
        have hne : ¬ x = y := by
          rintro rfl
          simp only [Bool.or_eq_true, Bool.not_eq_true'] at h1
          rcases h1 with h1 | h1
          · unfold least at d; rw [h1] at d; simp at d
          · exact b (hc.1 h1)
        exact ⟨a.resolve_left hne, ⟨b, hne⟩, d⟩
    · rw [if_neg h1]
      by_cases h2 : l.any (fun t => !(t == y) && imp t y) = true
      · rw [if_pos h2, ih]
        simp only [List.mem_append, List.mem_cons, List.not_mem_nil, or_false, not_or]
        constructor
        · rintro ⟨a, ⟨b, c⟩, d⟩; exact ⟨.inr a, b, d⟩
        · rintro ⟨a, b, d⟩
          have hne : ¬ x = y := by
            rintro rfl
            unfold least at d; rw [least_any, h2] at d; simp at d
          exact ⟨a.resolve_left hne, ⟨b, hne⟩, d⟩
      · rw [if_neg h2, List.mem_cons, ih]
        simp only [Bool.or_eq_true, Bool.not_eq_true', not_or, Bool.not_eq_false] at h1
        have hy : y ∉ p := fun h => h1.2 (hc.2 h)
        have hl : least l y = true := by unfold least; rw [least_any, h1.1]; simp at h2 ⊢; exact h2
        simp only [List.mem_append, List.mem_cons, List.not_mem_nil, or_false, not_or]
        constructor
        · rintro (rfl | ⟨a, ⟨b, c⟩, d⟩)
          · exact ⟨.inl rfl, hy, hl⟩
          · exact ⟨.inr a, b, d⟩
        · rintro ⟨a, b, d⟩
          by_cases e : x = y
          · exact .inl e
          · exact .inr ⟨a.resolve_left e, ⟨b, e⟩, d⟩
theorem mem_sorted (l : List Str) (x : Str) : x ∈ sorted l ↔ x ∈ l ∧ least l x = true := by
  unfold sorted
  rw [(sortS_perm _).mem_iff, mem_sel]; simp
theorem br3 {α : Type} (a b c : Bool) (p q : Option α) : ((if (!a) = true then some b else some false).bind fun z => if z = true then p else if c = true then p else q) = if (!a && b || c) = true then p else q := by
  cases a <;> cases b <;> cases c <;> rfl
theorem scope_Sorted_eq (l : List Str) (hl : sm l) : scope_Sorted l = some (sorted l) := by
  have h1000 := hl.1
  have inner : ∀ (r0 : List Str → List Str → List Str → Int → Int → Option (List Str)) (out : List Str) (x : Str) (i : Nat), out.length ≤ 1000 → i < l.length → fits x →
      ∀ (q : List Str) (k n : Nat), l.drop k = q → k ≤ l.length → q.length < n →
      scope_Sorted_L3 r0 n l out x l (l.length : Int) (i : Int) l (l.length : Int) (k : Int) =
        if q.any (fun t => !(t == x) && imp t x) then r0 l out l (l.length : Int) ((i + 1 : Nat) : Int) else r0 l (out ++ [x]) l (l.length : Int) ((i + 1 : Nat) : Int) := by
    intro r0 out x i ho hi hx q
    induction q with
    | nil =>
      intro k n hd hk hn
      obtain ⟨n, rfl⟩ : ∃ k, n = k + 1 := ⟨n - 1, by simp at hn; omega⟩
      have := drop_nil hd
      have hf : fitL out.length ([x] : List Str).length = true := by simp [fitL]; omega
      rw [scope_Sorted_L3]
      simp only [show ¬ ((k : Int) < l.length) by omega, decide_false, Bool.false_eq_true, if_false, hf, chk_true, scope_Sorted_B2, w64n (show i < 9223372036854775807 by omega), List.any_nil]
    | cons y q ih =>
      intro k n hd hk hn
      obtain ⟨n, rfl⟩ : ∃ k, n = k + 1 := ⟨n - 1, by simp at hn; omega⟩
      obtain ⟨h1, h2, h3⟩ := drop_more hd
      have hlt := drop_lt hd
      rw [scope_Sorted_L3]
      simp only [show ((k : Int) < l.length) by omega, decide_true, if_true, idx_n, h2, Option.bind_some, scope_Implies_eq y x (hl.at h2) hx, w64n (show k < 9223372036854775807 by omega), w64n (show i < 9223372036854775807 by omega), ih (k + 1) n h3 (by omega) (by simp at hn; omega), List.any_cons, scope_Sorted_B2]
      exact br3 _ _ _ _ _
  have key : ∀ (r : List Str) (i n : Nat) (out : List Str), l.drop i = r → i ≤ l.length → out.length ≤ i → r.length < n →
      scope_Sorted_L1 n l out l (l.length : Int) (i : Int) = some (sortS (out ++ sel l (l.take i) r)) := by
    intro r
    induction r with
    | nil =>
      intro i n out hd hi ho hn
      obtain ⟨n, rfl⟩ : ∃ k, n = k + 1 := ⟨n - 1, by simp at hn; omega⟩
      have := drop_nil hd
      have hs : decide (out.length < 4611686018427387904) = true := by simp; omega
      simp only [scope_Sorted_L1, show ¬ ((i : Int) < l.length) by omega, decide_false, Bool.false_eq_true, if_false, lib_Sort, hs, chk_true, Option.bind_some, sel, List.append_nil]
    | cons x r ih =>
      intro i n out hd hi ho hn
      obtain ⟨n, rfl⟩ : ∃ k, n = k + 1 := ⟨n - 1, by simp at hn; omega⟩
      obtain ⟨h1, h2, h3⟩ := drop_more hd
      have hlt := drop_lt hd
      have hi' : inc 0 (i : Int) l.length = true := by rw [inc_0]; simp; omega
      have hft : fits (l.take i) := by unfold fits; rw [take_len hlt]; omega
      have hin := inner (scope_Sorted_L1 n) out x i (by omega) hlt (hl.at h2) l 0 fuel rfl (by omega) (by unfold fuel; omega)
      have hin' : scope_Sorted_L3 (scope_Sorted_L1 n) fuel l out x l (l.length : Int) (i : Int) l (l.length : Int) 0 = _ := hin
      have e1 := ih (i + 1) n out h3 (by omega) (by omega) (by simp at hn; omega)
      have e2 := ih (i + 1) n (out ++ [x]) h3 (by omega) (by simp; omega) (by simp at hn; omega)
      simp only [scope_Sorted_L1, show ((i : Int) < l.length) by omega, decide_true, if_true, idx_n, h2, Option.bind_some, scope_valid_eq x (hl.at h2), hi', chk_true, cut_0, slices_Contains_eq _ _ hft, hin', scope_Sorted_B2, w64n (show i < 9223372036854775807 by omega), e1, e2, sel, take_more hd]
      cases valid x <;> cases (l.take i).contains x <;> cases l.any (fun t => !(t == x) && imp t x) <;> simp
  have := key l 0 fuel [] rfl (by omega) (by simp) (by unfold fuel; omega)
  simpa [scope_Sorted, sorted] using this
/-! ### the laws of one scope within another -/
theorem pre_iff {a b : Str} : pre a b = true ↔ (a ++ [46]) <+: b := by
  unfold pre
  simp only [Bool.and_eq_true, decide_eq_true_eq, beq_iff_eq]
  rw [List.prefix_iff_eq_take]
  simp only [List.length_append, List.length_singleton]
  constructor
  · rintro ⟨_, h⟩; exact h.symm
  · intro h
    refine ⟨?_, h.symm⟩
    have := congrArg List.length h
    simp at this; omega
theorem imp_iff {a b : Str} : imp a b = true ↔ valid a = true ∧ valid b = true ∧ (a = b ∨ (a ++ [46]) <+: b) := by
  unfold imp
  simp only [Bool.and_eq_true, Bool.or_eq_true, beq_iff_eq, pre_iff, and_assoc]
theorem imp_refl {a : Str} (h : valid a = true) : imp a a = true := imp_iff.2 ⟨h, h, .inl rfl⟩
theorem imp_trans {a b c : Str} (h : imp a b = true) (h' : imp b c = true) : imp a c = true := by
  rw [imp_iff] at *
  obtain ⟨h1, h2, h3⟩ := h
  obtain ⟨_, h5, h6⟩ := h'
  refine ⟨h1, h5, ?_⟩
  rcases h3 with rfl | h3
  · exact h6
  · rcases h6 with rfl | h6
    · exact .inr h3
    · exact .inr (h3.trans ((List.prefix_append b [46]).trans h6))
theorem imp_len {a b : Str} (h : imp a b = true) (hne : a ≠ b) : a.length < b.length := by
  obtain ⟨_, _, h3⟩ := imp_iff.1 h
  have := (h3.resolve_left hne).length_le
  simp at this; omega
theorem cov_iff {l : List Str} {s : Str} : cov l s = true ↔ ∃ t ∈ l, imp t s = true := by simp [cov]
theorem least_iff {l : List Str} {x : Str} : least l x = true ↔ valid x = true ∧ ∀ t ∈ l, imp t x = true → t = x := by
  unfold least
  simp only [Bool.and_eq_true, List.all_eq_true, Bool.or_eq_true, beq_iff_eq, Bool.not_eq_true']
  constructor
  · rintro ⟨h, h'⟩; exact ⟨h, fun t ht hi => (h' t ht).resolve_right (by simp [hi])⟩
  · rintro ⟨h, h'⟩
    refine ⟨h, fun t ht => ?_⟩
    cases hi : imp t x with
    | false => exact .inr rfl
    | true => exact .inl (h' t ht hi)
theorem least_under {l : List Str} {s : Str} : ∀ (n : Nat) (t : Str), t.length ≤ n → t ∈ l → imp t s = true → ∃ u, u ∈ l ∧ imp u s = true ∧ least l u = true := by
  intro n
  induction n with
  | zero =>
    intro t h ht hi
    have := (valid_len (imp_iff.1 hi).1).1; omega
  | succ n ih =>
    intro t h ht hi
    by_cases hl : least l t = true
    · exact ⟨t, ht, hi, hl⟩
    · rw [least_iff] at hl
      have hv := (imp_iff.1 hi).1
      have : ∃ u ∈ l, imp u t = true ∧ u ≠ t := by
        refine Classical.byContradiction fun hn => hl ⟨hv, fun u hu hi => Classical.byContradiction fun he => hn ⟨u, hu, hi, he⟩⟩
      obtain ⟨u, hu, h1, h2⟩ := this
      exact ih u (by have := imp_len h1 h2; omega) hu (imp_trans h1 hi)
theorem cov_sorted (l : List Str) (s : Str) : cov (sorted l) s = cov l s := by
  rw [Bool.eq_iff_iff, cov_iff, cov_iff]
  constructor
  · rintro ⟨t, ht, hi⟩; exact ⟨t, ((mem_sorted l t).1 ht).1, hi⟩
  · rintro ⟨t, ht, hi⟩
    obtain ⟨u, h1, h2, h3⟩ := least_under t.length t (Nat.le_refl _) ht hi
    exact ⟨u, (mem_sorted l u).2 ⟨h1, h3⟩, h2⟩
theorem put_set {K V : Type} [DecidableEq K] {key : K} {r x : V} : ∀ {l : List (K × V)} {k : Nat}, l[k]? = some (key, r) → (∀ q ∈ l.take k, q.1 ≠ key) → mputL key x l = l.set k (key, x)
  | [], k, h, _ => by simp at h
  | p :: l, 0, h, _ => by
    simp at h; subst h
    simp [mputL]
  | p :: l, k + 1, h, ht => by
    have hp := ht p (by simp)
    unfold mputL
    rw [if_neg (fun e => hp e.symm), put_set (k := k) (by simpa using h) (fun q hq => ht q (by simp [hq]))]
    rfl
theorem put_none {K V : Type} [DecidableEq K] {key : K} {x : V} : ∀ {l : List (K × V)}, mfind key l = none → mputL key x l = l ++ [(key, x)]
  | [], _ => rfl
  | p :: l, h => by
    unfold mfind at h
    split at h
    · cases h
    · rename_i e
      unfold mputL
      rw [if_neg e, put_none h]; rfl
/-! ### delegations -/
theorem awake35 : law35_awake = some true := by kernel_rfl
abbrev WL := List (delegate_way × delegate_delegation)
abbrev toOne (p : delegate_way × delegate_delegation) : ref35_one := ⟨p.1.from_, p.1.to_, p.2.scopes, p.2.window⟩
def vt (t : Int) : Bool := t == lim t
theorem clock_Valid_eq (t : Int) : clock_Valid t = some (vt t) := rfl
def ckW (w : api_Window) (t : Int) : Int := if w.From > w.Until then 2 else if lim t < w.From then 14 else if lim t ≥ w.Until then 13 else 0
theorem clock_Check_eq (w : api_Window) (t : Int) : clock_Check w t 0 = some (ckW w t) := by
  unfold clock_Check ckW
  have h := lim_range t
  have e1 : clock_limited t = some (lim t) := rfl
  have e2 : gmin (gmax 0 0) 600 = 0 := rfl
  rw [e1, Option.bind_some, e2, w64 (show -9223372036854775808 ≤ lim t + 0 by omega) (by omega), w64 (show -9223372036854775808 ≤ lim t - 0 by omega) (by omega), Int.add_zero, Int.sub_zero]
  by_cases a : w.From > w.Until
  · rw [if_pos (decide_eq_true a), if_pos a]
  rw [if_neg (by simpa using a), if_neg a]
  by_cases b : lim t < w.From
  · rw [if_pos (decide_eq_true b), if_pos b]
  rw [if_neg (by simpa using b), if_neg b]
  by_cases c : lim t ≥ w.Until
  · rw [if_pos (decide_eq_true c), if_pos c]
  rw [if_neg (by simpa using c), if_neg c]
/-- what a delegation holds -/
structure goodW (p : delegate_way × delegate_delegation) : Prop where
  frm : word p.1.from_ = true
  to : word p.1.to_ = true
  ne : p.1.from_ ≠ p.1.to_
  ck : ck p.2.scopes = 0
  some : p.2.scopes ≠ []
theorem goodW.sm {p : delegate_way × delegate_delegation} (h : goodW p) : sm p.2.scopes := by
  have h1 := ck_ok h.ck
  exact ⟨by omega, fun s hs => (word_fits (valid_word (ckL_ok [] h1.2 s hs)))⟩
theorem goodW.len {p : delegate_way × delegate_delegation} (h : goodW p) : p.2.scopes.length ≤ 16 := (ck_ok h.ck).1
structure Inv (l : WL) : Prop where
  nd : nodupK l
  len : l.length ≤ 256
  good : ∀ p ∈ l, goodW p
theorem inv_new : Inv [] := ⟨nodupK_nil, by simp, fun p h => by cases h⟩
theorem made_eq (l : WL) : delegate_Delegations_made ⟨some l⟩ = some true := rfl
def mayR (l : WL) (f t : Str) (sc : List Str) (now : Int) : Int :=
  match mfind ⟨f, t⟩ l with
  | none => 11
  | some d => if ckW d.window now ≠ 0 then ckW d.window now else if within sc d.scopes then 0 else 19
theorem Inv.at {l : WL} (h : Inv l) {k : delegate_way} {d : delegate_delegation} (hf : mfind k l = some d) : goodW (k, d) := h.good _ (mfind_mem hf)
theorem opt_cases {α : Type} (o : Option α) : o = none ∨ ∃ r, o = some r := by cases o <;> simp
theorem may_eq {l : WL} (h : Inv l) (f t : Str) {sc : List Str} (hs : sm sc) (now : Int) : delegate_Delegations_May ⟨some l⟩ f t sc now = some (mayR l f t sc now) := by
  unfold delegate_Delegations_May mayR mgetD mhas
  simp only [made_eq, Option.bind_some, Bool.not_true, Bool.false_eq_true, if_false, Option.getD_some]
  rcases opt_cases (mfind (⟨f, t⟩ : delegate_way) l) with hf | ⟨d, hf⟩
  · simp only [hf]; rfl
  · simp only [hf, Option.isSome_some, Bool.not_true, Bool.false_eq_true, if_false, Option.getD_some, clock_Check_eq, Option.bind_some, scope_Within_eq _ _ hs (h.at hf).sm]
    by_cases hc : ckW d.window now ≠ 0
    · rw [if_pos (by simpa using hc), if_pos hc]
    · rw [if_neg (by simpa using hc), if_neg hc]
      cases within sc d.scopes <;> rfl
/-- where a delegation lies -/
structure At (l : WL) (f t : Str) (k : Nat) (d : delegate_delegation) : Prop where
  get : l[k]? = some (⟨f, t⟩, d)
  pre : ∀ q ∈ l.take k, q.1 ≠ ⟨f, t⟩
theorem At.lt {l : WL} {f t : Str} {k : Nat} {d : delegate_delegation} (h : At l f t k d) : k < l.length := (List.getElem?_eq_some_iff.1 h.get).1
theorem At.put {l : WL} {f t : Str} {k : Nat} {d x : delegate_delegation} (h : At l f t k d) : setAt (l.map toOne) (k : Int) ⟨f, t, x.scopes, x.window⟩ = (mputL ⟨f, t⟩ x l).map toOne := by
  rw [put_set h.get h.pre, List.map_set]
  simp [setAt]
/-- Allow -/
def alE (l : WL) (f t : Str) (sc : List Str) (w : api_Window) : Int :=
  if (!word f || !word t) then 5 else if f = t then 28 else if ck sc ≠ 0 then ck sc else if sc = [] then 6 else if ((!vt w.From || !vt w.Until) || decide (w.From ≥ w.Until)) then 2
  else if (mfind (⟨f, t⟩ : delegate_way) l).isSome = false ∧ 256 ≤ l.length then 3 else 0
def alL (l : WL) (f t : Str) (sc : List Str) (w : api_Window) : WL := if alE l f t sc w = 0 then mputL ⟨f, t⟩ ⟨sc, w⟩ l else l
theorem mlen_some {K V : Type} (l : List (K × V)) : mlen (some l) = (l.length : Int) := by unfold mlen; simp
theorem or3 (a b : Bool) : (if (!a) = true then some true else some (!b)) = some (!a || !b) := by cases a <;> rfl
theorem allow_eq {l : WL} (h : Inv l) (f t : Str) {sc : List Str} (w : api_Window) (hf : fits f) (ht : fits t) (hs : sm sc) :
    delegate_Delegations_Allow ⟨some l⟩ f t sc w = some (alE l f t sc w, ⟨some (alL l f t sc w)⟩) := by
  unfold delegate_Delegations_Allow alL
  have hc : lib_Clone sc = some sc := by unfold lib_Clone; rw [chk_t (by have := hs.1; simp; omega)]
  simp only [made_eq, Option.bind_some, Bool.not_true, Bool.false_eq_true, if_false, fold_Word_eq f hf, fold_Word_eq t ht, or3, scope_Check_eq sc hs.2, clock_Valid_eq, hc]
  by_cases h1 : (!word f || !word t) = true
  · have hE : alE l f t sc w = 5 := by unfold alE; rw [if_pos h1]
    rw [if_pos h1, hE, if_neg (by decide)]
  rw [if_neg h1]
  by_cases h2 : f = t
  · have hE : alE l f t sc w = 28 := by unfold alE; rw [if_neg h1, if_pos h2]
    rw [if_pos (by simpa using h2), hE, if_neg (by decide)]
  rw [if_neg (by simpa using h2)]
  by_cases h3 : ck sc ≠ 0
  · have hE : alE l f t sc w = ck sc := by unfold alE; rw [if_neg h1, if_neg h2, if_pos h3]
    rw [if_pos (by simpa using h3), hE, if_neg h3]
  rw [if_neg (by simpa using h3)]
  by_cases h4 : sc = []
  · have hE : alE l f t sc w = 6 := by unfold alE; rw [if_neg h1, if_neg h2, if_neg h3, if_pos h4]
    rw [if_pos (by simp [h4]), hE, if_neg (by decide)]
  rw [if_neg (by simp [h4])]
  by_cases h5 : ((!vt w.From || !vt w.Until) || decide (w.From ≥ w.Until)) = true
  · have hE : alE l f t sc w = 2 := by unfold alE; rw [if_neg h1, if_neg h2, if_neg h3, if_neg h4, if_pos h5]
    rw [if_pos h5, hE, if_neg (by decide)]
  rw [if_neg h5]
  have hE : alE l f t sc w = if (mfind (⟨f, t⟩ : delegate_way) l).isSome = false ∧ 256 ≤ l.length then 3 else 0 := by unfold alE; rw [if_neg h1, if_neg h2, if_neg h3, if_neg h4, if_neg h5]
  rw [hE, mlen_some]
  unfold mhas
  simp only [Option.getD_some]
  by_cases h6 : (mfind (⟨f, t⟩ : delegate_way) l).isSome = false ∧ 256 ≤ l.length
  · rw [if_pos (by simp [h6.1]; omega), if_pos h6, if_neg (by decide)]
  · have : ¬ ((!(mfind (⟨f, t⟩ : delegate_way) l).isSome) && decide ((l.length : Int) ≥ 256)) = true := by
      intro e
      simp only [Bool.and_eq_true, Bool.not_eq_true', decide_eq_true_eq] at e
      exact h6 ⟨e.1, by omega⟩
    rw [if_neg this, if_neg h6, if_pos rfl]
    rfl
theorem alE_ok {l : WL} {f t : Str} {sc : List Str} {w : api_Window} (h : alE l f t sc w = 0) : goodW (⟨f, t⟩, ⟨sc, w⟩) ∧ w.From < w.Until ∧ ((mfind (⟨f, t⟩ : delegate_way) l).isSome = true ∨ l.length < 256) := by
  unfold alE at h
  by_cases h1 : (!word f || !word t) = true
  · rw [if_pos h1] at h; cases h
  rw [if_neg h1] at h
  by_cases h2 : f = t
  · rw [if_pos h2] at h; cases h
  rw [if_neg h2] at h
  by_cases h3 : ck sc ≠ 0
  · rw [if_pos h3] at h; exact absurd h h3
  rw [if_neg h3] at h
  by_cases h4 : sc = []
  · rw [if_pos h4] at h; cases h
  rw [if_neg h4] at h
  by_cases h5 : ((!vt w.From || !vt w.Until) || decide (w.From ≥ w.Until)) = true
  · rw [if_pos h5] at h; cases h
  rw [if_neg h5] at h
  simp only [Bool.or_eq_true, Bool.not_eq_true', not_or, Bool.not_eq_false] at h1
  simp only [Bool.or_eq_true, Bool.not_eq_true', not_or, Bool.not_eq_false, decide_eq_true_eq] at h5
  refine ⟨⟨h1.1, h1.2, h2, by simpa using h3, h4⟩, by omega, ?_⟩
  by_cases h6 : (mfind (⟨f, t⟩ : delegate_way) l).isSome = false ∧ 256 ≤ l.length
  · rw [if_pos h6] at h; cases h
  · cases hm : (mfind (⟨f, t⟩ : delegate_way) l).isSome with
    | true => exact .inl rfl
    | false => exact .inr (by simp only [hm, true_and] at h6; omega)
theorem inv_put {l : WL} (h : Inv l) {k : delegate_way} {x : delegate_delegation} (hk : (mfind k l).isSome = true ∨ l.length < 256) (hg : goodW (k, x)) : Inv (mputL k x l) := by
  refine ⟨nodupK_put h.nd, ?_, fun p hp => ?_⟩
  · rw [len_put]
    have := h.len
    rcases hk with hk | hk
    · rw [if_pos hk]; exact this
    · split <;> omega
  · rcases mem_put hp with rfl | hp
    · exact hg
    · exact h.good p hp
theorem inv_al {l : WL} (h : Inv l) (f t : Str) (sc : List Str) (w : api_Window) : Inv (alL l f t sc w) := by
  unfold alL
  split
  · rename_i e
    obtain ⟨a, _, b⟩ := alE_ok e
    exact inv_put h b a
  · exact h
theorem revoke_eq (l : WL) (f t : Str) : delegate_Delegations_Revoke ⟨some l⟩ f t = some ((mfind (⟨f, t⟩ : delegate_way) l).isSome, ⟨some (mdelL ⟨f, t⟩ l)⟩) := rfl
theorem inv_del {l : WL} (h : Inv l) (k : delegate_way) : Inv (mdelL k l) := by
  refine ⟨nodupK_del h.nd, ?_, fun p hp => h.good p (mem_del hp)⟩
  have := len_del (k := k) h.nd
  have := h.len
  omega
/-- Drop -/
def touches (u : Str) (p : delegate_way × delegate_delegation) : Bool := (p.1.from_ == u) || (p.1.to_ == u)
def others (u : Str) (l : WL) : WL := l.filter fun p => !touches u p
theorem del_mem {e : delegate_way × delegate_delegation} {l : WL} (hn : nodupK l) (he : e ∈ l) {p : delegate_way × delegate_delegation} : p ∈ mdelL e.1 l ↔ p ∈ l ∧ p.1 ≠ e.1 := by
  rw [del_filter hn, List.mem_filter]; simp
theorem dropf_loop (u : Str) (l0 : WL) (hn0 : nodupK l0) : ∀ (k : Nat) (l : WL) (done : List delegate_way) (n : Nat), (leftL l done).length = k → k < n → nodupK l → others u l = others u l0 → (∀ p ∈ l, p.1 ∈ done → touches u p = false) →
    maps_DeleteFunc_map_delegate_way_delegate_delegation_delegate_way_delegate_delegation__Delegations_Drop_1_L1 n (some l) u done = some (some (others u l0)) := by
  intro k
  induction k with
  | zero =>
    intro l done n hk hn hnd ho hd
    obtain ⟨n, rfl⟩ : ∃ k, n = k + 1 := ⟨n - 1, by omega⟩
    have e := List.eq_nil_of_length_eq_zero hk
    unfold maps_DeleteFunc_map_delegate_way_delegate_delegation_delegate_way_delegate_delegation__Delegations_Drop_1_L1
    rw [mleft_some, e]
    refine pickAny_of (fun _ => ?_) (fun e he => by cases he)
    rw [← ho]
    congr 2
    symm
    refine List.filter_eq_self.2 fun p hp => ?_
    have : p.1 ∈ done := by
      refine Classical.byContradiction fun hc => ?_
      have : p ∈ leftL l done := List.mem_filter.2 ⟨hp, by simpa using hc⟩
      rw [e] at this; cases this
    rw [hd p hp this]; rfl
  | succ k ih =>
    intro l done n hk hn hnd ho hd
    obtain ⟨n, rfl⟩ : ∃ k, n = k + 1 := ⟨n - 1, by omega⟩
    unfold maps_DeleteFunc_map_delegate_way_delegate_delegation_delegate_way_delegate_delegation__Delegations_Drop_1_L1
    rw [mleft_some]
    refine pickAny_of (fun e => by rw [e] at hk; cases hk) (fun e he => ?_)
    obtain ⟨he1, he2⟩ := leftL_mem he
    have hlen := leftL_len hnd he
    unfold delegate_Delegations_Drop_1 maps_DeleteFunc_map_delegate_way_delegate_delegation_delegate_way_delegate_delegation__Delegations_Drop_1_B2
    rw [Option.bind_some]
    have ht : (e.1.from_ == u || e.1.to_ == u) = touches u e := rfl
    rw [ht]
    cases hx : touches u e with
    | true =>
      rw [if_pos rfl]
      have hm : mdel (some l) e.1 = some (mdelL e.1 l) := rfl
      rw [hm]
      have e1 : leftL (mdelL e.1 l) (e.1 :: done) = leftL l (e.1 :: done) := by
        rw [del_filter hnd]
        unfold leftL
        rw [List.filter_filter]
        refine List.filter_congr fun p _ => ?_
        by_cases hp : p.1 = e.1 <;> simp [hp]
      refine ih _ _ n (by rw [e1]; omega) (by omega) (nodupK_del hnd) ?_ fun p hp hpd => ?_
      · rw [← ho, del_filter hnd]
        unfold others
        rw [List.filter_filter]
        refine List.filter_congr fun p hp => ?_
        by_cases hpe : p.1 = e.1
        · have : p = e := by
            have h1 := mfind_of_mem hnd (show (p.1, p.2) ∈ l from hp)
            have h2 := mfind_of_mem hnd (show (e.1, e.2) ∈ l from he1)
            rw [hpe, h2] at h1
            exact Prod.ext hpe (Option.some.inj h1).symm
          subst this; simp [hx]
        · simp [hpe]
      · obtain ⟨q1, q2⟩ := (del_mem hnd he1).1 hp
        refine hd p q1 ?_
        rcases List.mem_cons.1 hpd with h | h
        · exact absurd h q2
        · exact h
    | false =>
      rw [if_neg (by simp)]
      refine ih _ _ n (by omega) (by omega) hnd ho fun p hp hpd => ?_
      rcases List.mem_cons.1 hpd with h | h
      · have : p = e := by
          have h1 := mfind_of_mem hnd (show (p.1, p.2) ∈ l from hp)
          have h2 := mfind_of_mem hnd (show (e.1, e.2) ∈ l from he1)
          rw [h, h2] at h1
          exact Prod.ext h (Option.some.inj h1).symm
        subst this; exact hx
      · exact hd p hp h
theorem others_len (u : Str) (l : WL) : (others u l).length ≤ l.length := List.length_filter_le _ _
theorem drop_eq {l : WL} (h : Inv l) (u : Str) : delegate_Delegations_Drop ⟨some l⟩ u = some ((l.length : Int) - ((others u l).length : Int), ⟨some (others u l)⟩) := by
  have hl := h.len
  have ho := others_len u l
  unfold delegate_Delegations_Drop maps_DeleteFunc_map_delegate_way_delegate_delegation_delegate_way_delegate_delegation__Delegations_Drop_1
  have := dropf_loop u l h.nd l.length l [] fuel (by rw [leftL_nil]) (by unfold fuel; omega) h.nd rfl (fun p _ hp => by cases hp)
  rw [made_eq, Option.bind_some, if_neg (by simp)]
  simp only
  rw [this, Option.bind_some, mlen_some, mlen_some, w64 (by omega) (by omega)]
theorem inv_others {l : WL} (h : Inv l) (u : Str) : Inv (others u l) := ⟨nodupK_filter h.nd, by have := others_len u l; have := h.len; omega, fun p hp => h.good p (List.mem_filter.1 hp).1⟩
theorem sm_nil : sm [] := ⟨by simp, fun s h => by cases h⟩
def scR (l : WL) (f t : Str) (now : Int) : List Str := if mayR l f t [] now ≠ 0 then [] else sorted ((mfind (⟨f, t⟩ : delegate_way) l).getD ⟨[], ⟨0, 0⟩⟩).scopes
theorem may_some {l : WL} {f t : Str} {sc : List Str} {now : Int} (h : mayR l f t sc now = 0) : ∃ d, mfind ⟨f, t⟩ l = some d ∧ ckW d.window now = 0 ∧ within sc d.scopes = true := by
  unfold mayR at h
  rcases opt_cases (mfind (⟨f, t⟩ : delegate_way) l) with hf | ⟨d, hf⟩
  · rw [hf] at h; cases h
  · rw [hf] at h
    simp only at h
    by_cases hc : ckW d.window now ≠ 0
    · rw [if_pos hc] at h; exact absurd h hc
    · rw [if_neg hc] at h
      cases hw : within sc d.scopes with
      | true => exact ⟨d, hf, by simpa using hc, hw⟩
      | false => rw [hw] at h; cases h
theorem scopes_eq {l : WL} (h : Inv l) (f t : Str) (now : Int) : delegate_Delegations_Scopes ⟨some l⟩ f t now = some (scR l f t now) := by
  unfold delegate_Delegations_Scopes scR
  rw [may_eq h f t sm_nil, Option.bind_some]
  by_cases hm : mayR l f t [] now ≠ 0
  · rw [if_pos (by simpa using hm), if_pos hm]
  · rw [if_neg (by simpa using hm), if_neg hm]
    obtain ⟨d, hf, _⟩ := may_some (by simpa using hm)
    unfold mgetD
    simp only [Option.getD_some, hf, Option.bind_some, scope_Sorted_eq _ (h.at hf).sm]
/-! ### who is reached -/
def ed (l : WL) (s : Str) (now : Int) (p : delegate_way × delegate_delegation) : Bool := mayR l p.1.from_ p.1.to_ [s] now == 0
inductive Rch (l : WL) (s : Str) (now : Int) (to : Str) : Str → Prop
  | base : Rch l s now to to
  | step (p : delegate_way × delegate_delegation) : p ∈ l → Rch l s now to p.1.to_ → ed l s now p = true → Rch l s now to p.1.from_
/-- the sorted list of those that are reached -/
structure IsR (l : WL) (s : Str) (now : Int) (to : Str) (X : List Str) : Prop where
  asc : asc X
  mem : ∀ x, x ∈ X ↔ Rch l s now to x ∧ x ≠ to
theorem nodup_le : ∀ {A B : List Str}, A.Nodup → (∀ x ∈ A, x ∈ B) → A.length ≤ B.length
  | [], _, _, _ => by simp
  | a :: r, B, hn, h => by
    rw [List.nodup_cons] at hn
    have ha := h a (by simp)
    have := nodup_le (A := r) (B := B.erase a) hn.2 fun x hx => by
      have hne : x ≠ a := fun e => hn.1 (e ▸ hx)
      exact (List.mem_erase_of_ne hne).2 (h x (by simp [hx]))
    rw [List.length_erase_of_mem ha] at this
    have : 0 < B.length := List.length_pos_of_mem ha
    simp only [List.length_cons]; omega
abbrev SL := List (Str × Bool)
abbrev keys (m : SL) : List Str := m.map Prod.fst
/-- what the walk knows: c were taken off the queue q, m are seen -/
structure RI (l : WL) (s : Str) (now : Int) (to : Str) (m : SL) (q : List Str) (c : Nat) : Prop where
  nd : nodupK m
  val : ∀ p ∈ m, p.2 = true
  sub : ∀ x ∈ q, x ∈ keys m
  sound : ∀ x ∈ keys m, Rch l s now to x
  hto : to ∈ keys m
  from_ : ∀ x ∈ keys m, x = to ∨ x ∈ l.map (·.1.from_)
  cnt : c + q.length = m.length
theorem RI.len {l : WL} {s : Str} {now : Int} {to : Str} {m : SL} {q : List Str} {c : Nat} (h : RI l s now to m q c) : m.length ≤ l.length + 1 := by
  have := nodup_le (A := keys m) (B := to :: l.map (·.1.from_)) h.nd fun x hx => by rcases h.from_ x hx with e | e <;> simp [e]
  simpa [keys] using this
structure RS (l : WL) (s : Str) (now : Int) (to : Str) (m : List Str) : Prop where
  nd : m.Nodup
  hd : ∃ r, m = to :: r
  sound : ∀ x ∈ m, Rch l s now to x
  from_ : ∀ x ∈ m, x = to ∨ x ∈ l.map (·.1.from_)
theorem RS.len {l : WL} {s : Str} {now : Int} {to : Str} {m : List Str} (h : RS l s now to m) : m.length ≤ l.length + 1 := by
  have := nodup_le (B := to :: l.map (·.1.from_)) h.nd fun x hx => by rcases h.from_ x hx with e | e <;> simp [e]
  simpa using this
/-! ### gates -/
def shortL (l : List Str) : Prop := l.length ≤ 20 ∧ ∀ s ∈ l, s.length ≤ 200
theorem shortL.sm {l : List Str} (h : shortL l) : sm l := ⟨by have := h.1; omega, fun s hs => by have := h.2 s hs; unfold fits; omega⟩
theorem few_gate (l : List Str) (hf : fits l) : law35_few l = some false ∨ (law35_few l = some true ∧ shortL l) := by
  unfold fits at hf
  have key : ∀ (k i n : Nat), 20 - i = k → k < n → i ≤ 20 → i ≤ l.length → (∀ s ∈ l.take i, s.length ≤ 200) → law35_few_L1 n l (i : Int) = some false ∨ (law35_few_L1 n l (i : Int) = some true ∧ shortL l) := by
    intro k
    induction k with
    | zero =>
      intro i n hk hn h20 hi ht
      obtain ⟨n, rfl⟩ : ∃ k, n = k + 1 := ⟨n - 1, by omega⟩
      have e : i = 20 := by omega
      subst e
      unfold law35_few_L1
      rw [if_neg (by simp)]
      by_cases h : l.length ≤ 20
      · rw [List.take_of_length_le h] at ht
        exact .inr ⟨by simp; omega, h, ht⟩
      · exact .inl (by simp; omega)
    | succ k ih =>
      intro i n hk hn h20 hi ht
      obtain ⟨n, rfl⟩ : ∃ k, n = k + 1 := ⟨n - 1, by omega⟩
      unfold law35_few_L1
      by_cases hlt : i < l.length
      · have h2 : l[i]? = some l[i] := List.getElem?_eq_getElem hlt
        rw [if_pos (by simp; omega), idx_n, h2, Option.bind_some]
        by_cases hx : l[i].length ≤ 200
        · rw [if_neg (by simp; omega), w64n (show i < 9223372036854775807 by omega)]
          refine ih (i + 1) n (by omega) (by omega) (by omega) (by omega) fun s hs => ?_
          rw [List.take_add_one, h2] at hs
          rcases List.mem_append.1 hs with hs | hs
          · exact ht s hs
          · simp at hs; subst hs; exact hx
        · rw [if_pos (by simp; omega)]; exact .inl rfl
      · rw [if_neg (by simp; omega)]
        rw [List.take_of_length_le (by omega)] at ht
        by_cases h : l.length ≤ 20
        · exact .inr ⟨by simp; omega, h, ht⟩
        · exact .inl (by simp; omega)
  exact key 20 0 fuel rfl (by unfold fuel; omega) (by omega) (by omega) (by simp)
structure smallO (o : law35_Op) : Prop where
  frm : o.From.length ≤ 200
  to : o.To.length ≤ 200
  sc : shortL o.Scopes
theorem smallO.ff {o : law35_Op} (h : smallO o) : fits o.From := by have := h.frm; unfold fits; omega
theorem smallO.ft {o : law35_Op} (h : smallO o) : fits o.To := by have := h.to; unfold fits; omega
theorem light_gate (l : List law35_Op) (hf : fits l) (ho : ∀ o ∈ l, fits o.Scopes) : law35_light l = some false ∨ (law35_light l = some true ∧ l.length ≤ 24 ∧ ∀ o ∈ l, smallO o) := by
  unfold fits at hf
  have key : ∀ (k i n : Nat), 24 - i = k → k < n → i ≤ 24 → i ≤ l.length → (∀ s ∈ l.take i, smallO s) → law35_light_L1 n l (i : Int) = some false ∨ (law35_light_L1 n l (i : Int) = some true ∧ l.length ≤ 24 ∧ ∀ o ∈ l, smallO o) := by
    intro k
    induction k with
    | zero =>
      intro i n hk hn h20 hi ht
      obtain ⟨n, rfl⟩ : ∃ k, n = k + 1 := ⟨n - 1, by omega⟩
      have e : i = 24 := by omega
      subst e
      unfold law35_light_L1
      rw [if_neg (by simp)]
      by_cases h : l.length ≤ 24
      · rw [List.take_of_length_le h] at ht
        exact .inr ⟨by simp; omega, h, ht⟩
      · exact .inl (by simp; omega)
    | succ k ih =>
      intro i n hk hn h20 hi ht
      obtain ⟨n, rfl⟩ : ∃ k, n = k + 1 := ⟨n - 1, by omega⟩
      unfold law35_light_L1
      by_cases hlt : i < l.length
      · have h2 : l[i]? = some l[i] := List.getElem?_eq_getElem hlt
        have hix : idx l (i : Int) = some l[i] := by rw [idx_n, h2]
        rw [if_pos (by simp; omega)]
        simp only [hix, Option.bind_some, w64n (show i < 9223372036854775807 by omega)]
        by_cases h3 : l[i].From.length > 200
        · rw [if_pos (by simp; omega), Option.bind_some, if_pos rfl, Option.bind_some, if_pos rfl]; exact .inl rfl
        rw [if_neg (by simp; omega), Option.bind_some]
        by_cases h4 : l[i].To.length > 200
        · rw [if_pos (by simp; omega), Option.bind_some, if_pos rfl]; exact .inl rfl
        rw [if_neg (by simp; omega)]
        rcases few_gate l[i].Scopes (ho _ (List.getElem_mem hlt)) with h5 | ⟨h5, h6⟩
        · rw [h5, Option.bind_some, Option.bind_some, if_pos (show (!false) = true from rfl)]; exact .inl rfl
        · rw [h5, Option.bind_some, Option.bind_some, if_neg (by simp)]
          refine ih (i + 1) n (by omega) (by omega) (by omega) (by omega) fun s hs => ?_
          rw [List.take_add_one, h2] at hs
          rcases List.mem_append.1 hs with hs | hs
          · exact ht s hs
          · simp at hs; subst hs; exact ⟨by omega, by omega, h6⟩
      · rw [if_neg (by simp; omega)]
        rw [List.take_of_length_le (by omega)] at ht
        by_cases h : l.length ≤ 24
        · exact .inr ⟨by simp; omega, h, ht⟩
        · exact .inl (by simp; omega)
  exact key 24 0 fuel rfl (by unfold fuel; omega) (by omega) (by omega) (by simp)
/-! ### one call -/
def doI (l : WL) (o : law35_Op) : Int :=
  if o.Call = 0 then alE l o.From o.To o.Scopes o.Window else if o.Call = 1 then (if (mfind (⟨o.From, o.To⟩ : delegate_way) l).isSome then 1 else 0)
  else if o.Call = 2 then (l.length : Int) - ((others o.From l).length : Int) else mayR l o.From o.To o.Scopes o.Now
def doL (l : WL) (o : law35_Op) : WL :=
  if o.Call = 0 then alL l o.From o.To o.Scopes o.Window else if o.Call = 1 then mdelL ⟨o.From, o.To⟩ l else if o.Call = 2 then others o.From l else l
theorem inv_do {l : WL} (h : Inv l) (o : law35_Op) : Inv (doL l o) := by
  unfold doL
  split
  · exact inv_al h _ _ _ _
  · split
    · exact inv_del h _
    · split
      · exact inv_others h _
      · exact h
theorem yes_eq (b : Bool) : law35_yes b = some (if b then 1 else 0) := by cases b <;> rfl
theorem do_eq {l : WL} (h : Inv l) {o : law35_Op} (ho : smallO o) : law35_do ⟨some l⟩ o = some (doI l o, ⟨some (doL l o)⟩) := by
  unfold law35_do doI doL
  by_cases k0 : o.Call = 0
  · rw [if_pos (by simpa using k0), if_pos k0, if_pos k0, allow_eq h _ _ _ ho.ff ho.ft ho.sc.sm, Option.bind_some]
  rw [if_neg (by simpa using k0), if_neg k0, if_neg k0]
  by_cases k1 : o.Call = 1
  · rw [if_pos (by simpa using k1), if_pos k1, if_pos k1, revoke_eq, Option.bind_some, yes_eq, Option.bind_some]
  rw [if_neg (by simpa using k1), if_neg k1, if_neg k1]
  by_cases k2 : o.Call = 2
  · rw [if_pos (by simpa using k2), if_pos k2, if_pos k2, drop_eq h, Option.bind_some]
  rw [if_neg (by simpa using k2), if_neg k2, if_neg k2, may_eq h _ _ ho.sc.sm, Option.bind_some]
/-! ### without the reference: what is dropped -/
theorem find_others (u : Str) (k : delegate_way) (l : WL) : mfind k (others u l) = if k.from_ == u || k.to_ == u then none else mfind k l := by
  have := mfind_filter (k := k) (q := fun k : delegate_way => !(k.from_ == u || k.to_ == u)) (l := l)
  have e : others u l = l.filter fun p => (fun k : delegate_way => !(k.from_ == u || k.to_ == u)) p.1 := rfl
  rw [e, this]
  cases k.from_ == u || k.to_ == u <;> simp
theorem may_none {l : WL} {f t : Str} (h : mfind (⟨f, t⟩ : delegate_way) l = none) (sc : List Str) (now : Int) : mayR l f t sc now = 11 := by unfold mayR; rw [h]
/-! ### the last word -/
def GivI (l : WL) (f t : Str) (is : Bool) (sc : List Str) (a b : Int) : Prop :=
  (is = true → mfind (⟨f, t⟩ : delegate_way) l = some ⟨sc, ⟨a, b⟩⟩ ∧ a < b ∧ goodW (⟨f, t⟩, ⟨sc, ⟨a, b⟩⟩)) ∧ (is = false → mfind (⟨f, t⟩ : delegate_way) l = none)
theorem sorted_ne {sc : List Str} (h : sc ≠ []) (hv : ∀ s ∈ sc, valid s = true) : 0 < (sorted sc).length := by
  cases sc with
  | nil => exact absurd rfl h
  | cons x r =>
    have h1 : cov (x :: r) x = true := cov_iff.2 ⟨x, by simp, imp_refl (hv x (by simp))⟩
    rw [← cov_sorted] at h1
    obtain ⟨t, ht, _⟩ := cov_iff.1 h1
    exact List.length_pos_of_mem ht
theorem within_nil (l : List Str) : within [] l = true := rfl
theorem only_end {l : WL} (hi : Inv l) {f t : Str} {is : Bool} {g : List Str} {a b : Int} (hg : GivI l f t is g a b) {sc : List Str} (hs : sm sc) (now : Int) :
    (mayR l f t sc now == 0) = ((is && decide (lim now ≥ a)) && decide (lim now < b) && within sc g) ∧ decide (((scR l f t now).length : Int) > 0) = ((is && decide (lim now ≥ a)) && decide (lim now < b)) := by
  cases is with
  | false =>
    have := hg.2 rfl
    rw [may_none this, Bool.false_and, Bool.false_and, Bool.false_and]
    refine ⟨rfl, ?_⟩
    unfold scR
    rw [may_none this, if_pos (by decide)]
    rfl
  | true =>
    obtain ⟨h1, h2, h3⟩ := hg.1 rfl
    have hck : ckW ⟨a, b⟩ now = if lim now < a then 14 else if lim now ≥ b then 13 else 0 := by unfold ckW; rw [if_neg (by simp only; omega)]
    have hm : ∀ sc, mayR l f t sc now = if ckW ⟨a, b⟩ now ≠ 0 then ckW ⟨a, b⟩ now else if within sc g then 0 else 19 := fun sc => by unfold mayR; rw [h1]
    have hsl := sorted_ne h3.some (ckL_ok [] (ck_ok h3.ck).2)
    by_cases c1 : lim now < a
    · have hm' : ∀ sc', mayR l f t sc' now = 14 := fun sc' => by rw [hm, hck, if_pos c1, if_pos (by decide)]
      have e1 : decide (lim now ≥ a) = false := by rw [decide_eq_false_iff_not]; omega
      unfold scR
      rw [hm' sc, hm' [], if_pos (by decide), e1]
      exact ⟨rfl, rfl⟩
    · have e1 : decide (lim now ≥ a) = true := by rw [decide_eq_true_eq]; omega
      by_cases c2 : lim now ≥ b
      · have hm' : ∀ sc', mayR l f t sc' now = 13 := fun sc' => by rw [hm, hck, if_neg c1, if_pos c2, if_pos (by decide)]
        have e2 : decide (lim now < b) = false := by rw [decide_eq_false_iff_not]; omega
        unfold scR
        rw [hm' sc, hm' [], if_pos (by decide), e1, e2]
        exact ⟨rfl, rfl⟩
      · have hm' : ∀ sc', mayR l f t sc' now = if within sc' g = true then 0 else 19 := fun sc' => by rw [hm, hck, if_neg c1, if_neg c2, if_neg (by simp)]
        have e2 : decide (lim now < b) = true := by rw [decide_eq_true_eq]; omega
        have e0 : mayR l f t [] now = 0 := by rw [hm', within_nil]; rfl
        unfold scR
        rw [hm' sc, e0, if_neg (show ¬ ((0 : Int) ≠ 0) by simp), h1, e1, e2]
        simp only at hsl
        refine ⟨by cases within sc g <;> rfl, ?_⟩
        simp [hsl]
theorem giv_ne {l l' : WL} {f t : Str} {is : Bool} {g : List Str} {a b : Int} (hg : GivI l f t is g a b) (h : mfind (⟨f, t⟩ : delegate_way) l' = mfind ⟨f, t⟩ l) : GivI l' f t is g a b :=
  ⟨fun e => by rw [h]; exact hg.1 e, fun e => by rw [h]; exact hg.2 e⟩
theorem only_loop (ops : List law35_Op) (hf : ops.length ≤ 24) (ho : ∀ o ∈ ops, smallO o) (f t : Str) {sc : List Str} (hsc : shortL sc) (now : Int) :
    ∀ (r : List law35_Op) (i n : Nat) (l : WL) (is : Bool) (g0 g1 : Int) (g2 g3 : Str) (g : List Str) (a b : Int), ops.drop i = r → r.length < n → Inv l → GivI l f t is g a b →
    law35_DelegateOnly_L1 n ops f t sc now ⟨some l⟩ g0 g1 g2 g3 g a b is (i : Int) = some true := by
  intro r
  induction r with
  | nil =>
    intro i n l is g0 g1 g2 g3 g a b hd hn hi hg
    obtain ⟨n, rfl⟩ : ∃ k, n = k + 1 := ⟨n - 1, by simp at hn; omega⟩
    have := drop_nil hd
    obtain ⟨e1, e2⟩ := only_end hi hg hsc.sm now
    have el : gmax 0 (gmin now 1099511627776) = lim now := lim_eq now
    unfold law35_DelegateOnly_L1
    rw [if_neg (by simp; omega), el, may_eq hi _ _ hsc.sm, scopes_eq hi]
    by_cases c : ((is && decide (lim now ≥ a)) && decide (lim now < b)) = true
    · have his : is = true := by cases is with
        | true => rfl
        | false => simp at c
      have hgs : sm g := ((hg.1 his).2.2).sm
      rw [c, Bool.true_and] at e1
      rw [c] at e2
      rw [if_pos c, scope_Within_eq _ _ hsc.sm hgs, Option.bind_some, Option.bind_some, Option.bind_some, e1, if_pos (by simp), Option.bind_some, Option.bind_some, e2, c, if_pos (by rfl), awake35]
      rfl
    · have c' := Bool.eq_false_iff.2 c
      rw [c', Bool.false_and] at e1
      rw [c'] at e2
      rw [if_neg c, Option.bind_some, Option.bind_some, e1, if_pos (by rfl), Option.bind_some, Option.bind_some, e2, c', if_pos (by rfl), awake35]
      rfl
  | cons o r ih =>
    intro i n l is g0 g1 g2 g3 g a b hd hn hi hg
    obtain ⟨n, rfl⟩ : ∃ k, n = k + 1 := ⟨n - 1, by simp at hn; omega⟩
    obtain ⟨q1, q2, q3⟩ := drop_more hd
    have hlt := drop_lt hd
    have hoo := ho o (List.mem_of_getElem? q2)
    have hix : idx ops (i : Int) = some o := by rw [idx_n, q2]
    have hi2 := inv_do hi o
    have hw := w64n (show i < 9223372036854775807 by omega)
    have hmine : (if (o.From == f) = true then some (o.To == t) else some false) = some (o.From == f && o.To == t) := by cases o.From == f <;> rfl
    have hei : (if (o.From == f) = true then some true else some (o.From == t)) = some (o.From == f || o.From == t) := by cases o.From == f <;> rfl
    unfold law35_DelegateOnly_L1
    rw [if_pos (by simp; omega)]
    simp only [hix, Option.bind_some, do_eq hi hoo, hmine, hei]
    have next : ∀ (is' : Bool) (g0 g1 : Int) (g2 g3 : Str) (g' : List Str) (a' b' : Int), GivI (doL l o) f t is' g' a' b' → law35_DelegateOnly_B2 (law35_DelegateOnly_L1 n) ops f t sc now ⟨some (doL l o)⟩ g0 g1 g2 g3 g' a' b' is' (i : Int) = some true := by
      intro is' g0 g1 g2 g3 g' a' b' hg'
      unfold law35_DelegateOnly_B2
      rw [hw]
      exact ih (i + 1) n (doL l o) is' g0 g1 g2 g3 g' a' b' q3 (by simp at hn; omega) hi2 hg'
    by_cases k0 : o.Call = 0
    · have hI : doI l o = alE l o.From o.To o.Scopes o.Window := by unfold doI; rw [if_pos k0]
      have hL : doL l o = alL l o.From o.To o.Scopes o.Window := by unfold doL; rw [if_pos k0]
      rw [hI]
      by_cases hm : ((o.Call == 0) && (o.From == f && o.To == t) && (alE l o.From o.To o.Scopes o.Window == 0)) = true
      · rw [if_pos hm]
        simp only [Bool.and_eq_true, beq_iff_eq] at hm
        obtain ⟨⟨_, e1, e2⟩, e3⟩ := hm
        refine next true _ _ _ _ _ _ _ ⟨fun _ => ?_, (fun h => by cases h)⟩
        obtain ⟨w1, w2, _⟩ := alE_ok e3
        rw [hL]
        unfold alL
        rw [if_pos e3, ← e1, ← e2]
        exact ⟨mfind_put_self, w2, w1⟩
      · rw [if_neg hm, if_neg (by simp [k0]), if_neg (by simp [k0]), Option.bind_some]
        unfold law35_DelegateOnly_B3
        rw [if_neg (by simp)]
        refine next is _ _ _ _ _ _ _ (giv_ne hg ?_)
        rw [hL]
        unfold alL
        split
        · rename_i e3
          refine mfind_put_ne fun e => hm ?_
          simp only [delegate_way.mk.injEq] at e
          simp [k0, e.1, e.2, e3]
        · rfl
    · have hm0 : ¬ ((o.Call == 0) && (o.From == f && o.To == t) && (doI l o == 0)) = true := by simp [k0]
      rw [if_neg hm0]
      by_cases k1 : o.Call = 1
      · have hL : doL l o = mdelL ⟨o.From, o.To⟩ l := by unfold doL; rw [if_neg k0, if_pos k1]
        by_cases hm : ((o.Call == 1) && (o.From == f && o.To == t)) = true
        · rw [if_pos hm]
          unfold law35_DelegateOnly_B3
          rw [if_pos hm]
          simp only [Bool.and_eq_true, beq_iff_eq] at hm
          refine next false _ _ _ _ _ _ _ ⟨(fun h => by cases h), fun _ => ?_⟩
          rw [hL, mfind_del hi.nd, if_pos (by rw [hm.2.1, hm.2.2])]
        · rw [if_neg hm, if_neg (by simp [k1]), Option.bind_some]
          unfold law35_DelegateOnly_B3
          rw [if_neg (by simp)]
          refine next is _ _ _ _ _ _ _ (giv_ne hg ?_)
          rw [hL, mfind_del hi.nd, if_neg]
          intro e
          simp only [delegate_way.mk.injEq] at e
          exact hm (by simp [k1, e.1, e.2])
      · rw [if_neg (by simp [k1])]
        by_cases k2 : o.Call = 2
        · have hL : doL l o = others o.From l := by unfold doL; rw [if_neg k0, if_neg k1, if_pos k2]
          rw [if_pos (by simpa using k2), Option.bind_some]
          have hfo := find_others o.From ⟨f, t⟩ l
          unfold law35_DelegateOnly_B3
          by_cases hm : (o.From == f || o.From == t) = true
          · rw [if_pos hm]
            refine next false _ _ _ _ _ _ _ ⟨(fun h => by cases h), fun _ => ?_⟩
            rw [hL, hfo, if_pos]
            simp only [Bool.or_eq_true, beq_iff_eq] at hm ⊢
            rcases hm with e | e
            · exact .inl e.symm
            · exact .inr e.symm
          · rw [if_neg hm]
            refine next is _ _ _ _ _ _ _ (giv_ne hg ?_)
            rw [hL, hfo, if_neg]
            simp only [Bool.or_eq_true, beq_iff_eq, not_or] at hm ⊢
            exact ⟨fun e => hm.1 e.symm, fun e => hm.2 e.symm⟩
        · have hL : doL l o = l := by unfold doL; rw [if_neg k0, if_neg k1, if_neg k2]
          rw [if_neg (by simpa using k2), Option.bind_some]
          unfold law35_DelegateOnly_B3
          rw [if_neg (by simp)]
          exact next is _ _ _ _ _ _ _ (by rw [hL]; exact hg)
theorem only_true (ops : List law35_Op) (f t : Str) (sc : List Str) (now : Int) (hf : fits ops) (ho : ∀ o ∈ ops, fits o.Scopes) (hs : fits sc) : law35_DelegateOnly ops f t sc now = some true := by
  unfold law35_DelegateOnly
  rcases light_gate ops hf ho with h | ⟨h, hm, hoo⟩
  · simp only [h, Option.bind_some, Bool.not_false, if_true, Bool.true_or, awake35]
  rw [h, Option.bind_some, if_neg (by simp)]
  rcases few_gate sc hs with h2 | ⟨h2, hs'⟩
  · simp only [h2, Option.bind_some, Bool.not_false, if_true, Bool.true_or, awake35]
  rw [h2, Option.bind_some, Option.bind_some]
  by_cases h3 : f.length > 200
  · rw [if_pos (by simp; omega), awake35, Option.bind_some]
  by_cases h4 : t.length > 200
  · rw [if_pos (by simp; omega), awake35, Option.bind_some]
  rw [if_neg (by simp; omega)]
  show (some (delegate_Delegations.mk (some []))).bind _ = _
  rw [Option.bind_some]
  exact only_loop ops hm hoo f t hs' now ops 0 fuel [] false 0 0 [] [] [] 0 0 rfl (by unfold fuel; omega) inv_new ⟨fun h => (by cases h), fun _ => rfl⟩
def nd : List Str → Bool
  | [] => true
  | x :: r => !r.contains x && nd r
end Go.KW.S
