/- Own work: a part of the proofs of this seat. -/
import Derived.Test.YtibmfjehbmdbkaaKwPlain
import Derived.Test.YtibmfjehbmdbkaaKwMapP
import Derived.Test.YtibmfjehbmdbkaaKwHS
import Derived.KernelRfl
import Derived.Lib.IndexMore
import Derived.Lib.CountLaws
import Derived.Laws.RangeString
import Derived.Laws.RangeAny
set_option linter.unusedVariables false
set_option linter.unusedSimpArgs false
namespace Go.KW.S
open Go Go.KW
/-! ### words -/
def isW (c : Int) : Bool := (((decide (c ≥ 65) && decide (c ≤ 90)) || (decide (c ≥ 97) && decide (c ≤ 122))) || (decide (c ≥ 48) && decide (c ≤ 57))) || c == 45 || c == 95 || c == 46 || c == 58
def word (s : Str) : Bool := s.all (fun u => isW u.toNat) && (decide (1 ≤ s.length) && decide (s.length ≤ 64))

theorem fold_Word_1_eq (c : Int) : fold_Word_1 c = some (isW c) := by
  simp only [fold_Word_1, fold_letter, fold_upper, fold_digit, isW, Option.bind_some]
  cases (decide (c ≥ 65) && decide (c ≤ 90)) <;> cases (decide (c ≥ 97) && decide (c ≤ 122)) <;> simp
theorem fold_made_eq (s : Str) (hs : fits s) : fold_made__Word_1 s = some (word s) := by
  have key : ∀ (r : Str) (i n : Nat), s.drop i = r → i ≤ s.length → r.length < n →
      fold_made__Word_1_L1 n s (s.length : Int) (i : Int) = some (r.all (fun u => isW u.toNat) && (decide (1 ≤ s.length) && decide (s.length ≤ 64))) := by
    intro r
    induction r with
    | nil =>
      intro i n hd hi hn
      obtain ⟨n, rfl⟩ : ∃ k, n = k + 1 := ⟨n - 1, by simp at hn; omega⟩
      have := drop_nil hd
      simp only [fold_made__Word_1_L1, show ¬ ((i : Int) < s.length) by omega, decide_false, Bool.false_eq_true, if_false, List.all_nil, Bool.true_and, Option.some.injEq]
      rw [Bool.eq_iff_iff]; cases s <;> simp <;> omega
    | cons u r ih =>
      intro i n hd hi hn
      obtain ⟨n, rfl⟩ : ∃ k, n = k + 1 := ⟨n - 1, by simp at hn; omega⟩
      obtain ⟨h1, h2, h3⟩ := drop_more hd
      have hlt := drop_lt hd
      have := hs; unfold fits at this
      simp only [fold_made__Word_1_L1, show ((i : Int) < s.length) by omega, decide_true, if_true, inb_n, h1, chk_true, byteAt_some h2, fold_Word_1_eq, Option.bind_some, w64n (show i < 9223372036854775807 by omega), List.all_cons]
      cases isW u.toNat with
      | false => simp
      | true => simpa using ih (i + 1) n h3 (by omega) (by simp at hn; omega)
  exact key s 0 fuel rfl (by omega) (fuel_pos hs)
theorem fold_Word_eq (s : Str) (hs : fits s) : fold_Word s = some (word s) := by
  simp [fold_Word, fold_made_eq s hs]

/-- an instant by Rule 6 -/
def lim (t : Int) : Int := gmin (gmax t 0) 1099511627776
theorem lim_range (t : Int) : 0 ≤ lim t ∧ lim t ≤ 1099511627776 := by unfold lim gmin gmax; split <;> split <;> omega
/-- two dots in a row -/
def dots : Str → Bool
  | a :: b :: r => (a == 46 && b == 46) || dots (b :: r)
  | _ => false
def valid (s : Str) : Bool := word s && !(s.head? == some 46) && !(s.getLast? == some 46) && !dots s
theorem contains_dots (s : Str) : Lib.contains s [46, 46] = dots s := by
  have key : ∀ s : Str, (decide (0 ≤ Lib.index s [46, 46]) = dots s) ∧ -1 ≤ Lib.index s [46, 46] := by
    intro s
    induction s with
    | nil => exact ⟨rfl, by decide⟩
    | cons a r ih =>
      obtain ⟨ih1, ih2⟩ := ih
      have hi : Lib.index (a :: r) [46, 46] = if ([46, 46] : Str).isPrefixOf (a :: r) then 0 else if Lib.index r [46, 46] == -1 then -1 else Lib.index r [46, 46] + 1 := by
        simp only [Lib.index]
      have hp : ([46, 46] : Str).isPrefixOf (a :: r) = (a == 46 && r.head? == some 46) := by
        cases r with
        | nil => simp [List.isPrefixOf]
        | cons b r => simp [List.isPrefixOf, Bool.beq_comm]
      have hd : dots (a :: r) = ((a == 46 && r.head? == some 46) || dots r) := by
        cases r with
        | nil => simp [dots]
        | cons b r => simp [dots]
      rw [hi, hp, hd, ← ih1]
      cases (a == 46 && r.head? == some 46) with
      | true => simp
      | false =>
        simp only [Bool.false_eq_true, if_false, Bool.false_or]
        by_cases h : Lib.index r [46, 46] = -1
        · rw [h]; simp
        · have h' : (Lib.index r [46, 46] == -1) = false := by simpa using h
          rw [h']
          simp only [Bool.false_eq_true, if_false]
          refine ⟨?_, by omega⟩
          rw [Bool.eq_iff_iff]; simp; omega
  exact (key s).1
theorem u8_eq (u : UInt8) (k : Nat) (hk : k < 256) : ((u.toNat : Int) == (k : Int)) = (u == UInt8.ofNat k) := by
  rw [Bool.eq_iff_iff, beq_iff_eq, beq_iff_eq]
  constructor
  · intro h
    have : u.toNat = k := by omega
    exact UInt8.toNat_inj.1 (by rw [this, UInt8.toNat_ofNat_of_lt' (by simpa using hk)])
  · rintro rfl
    rw [UInt8.toNat_ofNat_of_lt' (by simpa using hk)]
theorem u8_46 (u : UInt8) : ((u.toNat : Int) == 46) = (u == 46) := u8_eq u 46 (by decide)
theorem byteAt_first {s : Str} (h : 1 ≤ s.length) : (byteAt s 0 == 46) = (s.head? == some 46) := by
  cases s with
  | nil => simp at h
  | cons a r =>
    have : byteAt (a :: r) 0 = (a.toNat : Int) := by simp [byteAt]
    rw [this, u8_46]; simp
theorem byteAt_end {s : Str} (h : 1 ≤ s.length) : (byteAt s (((s.length - 1 : Nat) : Int)) == 46) = (s.getLast? == some 46) := by
  have h1 : s[s.length - 1]? = some s[s.length - 1] := List.getElem?_eq_getElem (by omega)
  rw [byteAt_some h1, u8_46, List.getLast?_eq_getElem?, h1]; simp
theorem word_len {s : Str} (h : word s = true) : 1 ≤ s.length ∧ s.length ≤ 64 := by
  simp only [word, Bool.and_eq_true, decide_eq_true_eq] at h; exact h.2
theorem word_fits {s : Str} (h : word s = true) : fits s := by have := word_len h; unfold fits; omega
theorem last_ix {s : Str} (h : 1 ≤ s.length ∧ s.length ≤ 64) : IntKind.i64.wrap ((s.length : Int) - 1) = ((s.length - 1 : Nat) : Int) := by
  rw [w64 (by omega) (by omega)]; omega
theorem inb_0 {n : Nat} (h : 1 ≤ n) : inb 0 n = true := by simp [inb] <;> omega
theorem scope_valid_eq (s : Str) (hs : fits s) : scope_valid s = some (valid s) := by
  unfold scope_valid valid
  rw [fold_Word_eq s hs, Option.bind_some]
  cases hw : word s with
  | false => simp
  | true =>
    have hl := word_len hw
    simp only [if_true, inb_0 hl.1, chk_true, Option.bind_some, bne, byteAt_first hl.1, last_ix hl, Bool.true_and]
    cases s.head? == some 46 with
    | true => simp
    | false =>
      have h2 : inb ((s.length - 1 : Nat) : Int) s.length = true := by rw [inb_n]; simp; omega
      simp only [Bool.not_false, if_true, h2, chk_true, byteAt_end hl.1, Option.bind_some, Bool.true_and]
      cases s.getLast? == some 46 with
      | true => simp
      | false =>
        have h3 : decide (s.length < 4294967281) = true := by simp; omega
        simp only [Bool.not_false, if_true, lib_Contains, h3, chk_true, Option.bind_some, contains_dots, Bool.true_and]
/-- where a string is first found -/
def ixOf (v : Str) : Nat → List Str → Int
  | _, [] => -1
  | i, x :: r => if v == x then i else ixOf v (i + 1) r
theorem slices_Index_eq (l : List Str) (v : Str) (hl : fits l) : slices_Index_string_string l v = some (ixOf v 0 l) := by
  have key : ∀ (r : List Str) (i n : Nat), l.drop i = r → i ≤ l.length → r.length < n →
      slices_Index_string_string_L1 n l v (l.length : Int) (i : Int) = some (ixOf v i r) := by
    intro r
    induction r with
    | nil =>
      intro i n hd hi hn
      obtain ⟨n, rfl⟩ : ∃ k, n = k + 1 := ⟨n - 1, by simp at hn; omega⟩
      have := drop_nil hd
      simp [slices_Index_string_string_L1, show ¬ ((i : Int) < l.length) by omega, ixOf]
    | cons x r ih =>
      intro i n hd hi hn
      obtain ⟨n, rfl⟩ : ∃ k, n = k + 1 := ⟨n - 1, by simp at hn; omega⟩
      obtain ⟨h1, h2, h3⟩ := drop_more hd
      have hlt := drop_lt hd
      have := hl; unfold fits at this
      simp only [slices_Index_string_string_L1, show ((i : Int) < l.length) by omega, decide_true, if_true, idx_n, h2, Option.bind_some, w64n (show i < 9223372036854775807 by omega), ih (i + 1) n h3 (by omega) (by simp at hn; omega), ixOf]
      cases v == x <;> simp
  exact key l 0 fuel rfl (by omega) (fuel_pos hl)
theorem ixOf_pos (v : Str) : ∀ (r : List Str) (i : Nat), decide (ixOf v i r ≥ 0) = r.contains v
  | [], _ => by simp [ixOf]
  | x :: r, i => by
    unfold ixOf
    rw [List.contains_cons]
    cases h : v == x with
    | true => simp
    | false => simpa using ixOf_pos v r (i + 1)
theorem slices_Contains_eq (l : List Str) (v : Str) (hl : fits l) : slices_Contains_string_string l v = some (l.contains v) := by
  simp only [slices_Contains_string_string, slices_Index_eq l v hl, Option.bind_some, ixOf_pos]
/-- the first error of a list of scopes, p being those before -/
def ckL : List Str → List Str → Int
  | _, [] => 0
  | p, x :: r => if !valid x then 5 else if p.contains x then 7 else ckL (p ++ [x]) r
def ck (l : List Str) : Int := if decide ((l.length : Int) > 16) then 3 else ckL [] l
/-- each string can be held -/
def fitsAll (l : List Str) : Prop := ∀ s ∈ l, fits s
theorem fitsAll_at {l : List Str} (h : fitsAll l) {i : Nat} {x : Str} (hx : l[i]? = some x) : fits x := h x (List.mem_of_getElem? hx)
theorem take_len {T : Type} {l : List T} {i : Nat} (h : i < l.length) : (l.take i).length = i := by simp; omega
theorem scope_Check_eq (l : List Str) (hl : fitsAll l) : scope_Check l = some (ck l) := by
  unfold scope_Check ck
  by_cases h16 : (l.length : Int) > 16
  · simp [h16]
  · simp only [h16, decide_false, Bool.false_eq_true, if_false]
    have key : ∀ (r : List Str) (i n : Nat), l.drop i = r → i ≤ l.length → r.length < n → scope_Check_L1 n l l (l.length : Int) (i : Int) = some (ckL (l.take i) r) := by
      intro r
      induction r with
      | nil =>
        intro i n hd hi hn
        obtain ⟨n, rfl⟩ : ∃ k, n = k + 1 := ⟨n - 1, by simp at hn; omega⟩
        have := drop_nil hd
        simp [scope_Check_L1, show ¬ ((i : Int) < l.length) by omega, ckL]
      | cons x r ih =>
        intro i n hd hi hn
        obtain ⟨n, rfl⟩ : ∃ k, n = k + 1 := ⟨n - 1, by simp at hn; omega⟩
        obtain ⟨h1, h2, h3⟩ := drop_more hd
        have hlt := drop_lt hd
        have hi' : inc 0 (i : Int) l.length = true := by rw [inc_0]; simp; omega
        have hft : fits (l.take i) := by unfold fits; rw [take_len hlt]; omega
        simp only [scope_Check_L1, show ((i : Int) < l.length) by omega, decide_true, if_true, idx_n, h2, Option.bind_some, scope_valid_eq x (fitsAll_at hl h2), hi', chk_true, cut_0, slices_Contains_eq _ _ hft, w64n (show i < 9223372036854775807 by omega), ih (i + 1) n h3 (by omega) (by simp at hn; omega), ckL, take_more hd]
        cases valid x <;> cases (l.take i).contains x <;> simp
    exact key l 0 fuel rfl (by omega) (by unfold fuel; omega)
theorem ckL_ok {l : List Str} : ∀ p : List Str, ckL p l = 0 → ∀ s ∈ l, valid s = true := by
  induction l with
  | nil => intro p _ s hs; cases hs
  | cons x r ih =>
    intro p h s hs
    unfold ckL at h
    cases hv : valid x with
    | false => simp [hv] at h
    | true =>
      simp only [hv, Bool.not_true, Bool.false_eq_true, if_false] at h
      split at h
      · cases h
      · rcases List.mem_cons.1 hs with rfl | hs
        · exact hv
        · exact ih _ h s hs
theorem valid_word {s : Str} (h : valid s = true) : word s = true := by simp only [valid, Bool.and_eq_true] at h; exact h.1.1.1
theorem ck_ok {l : List Str} (h : ck l = 0) : l.length ≤ 16 ∧ ckL [] l = 0 := by
  unfold ck at h
  by_cases h16 : (l.length : Int) > 16
  · simp [h16] at h
  · simp only [h16, decide_false, Bool.false_eq_true, if_false] at h
    exact ⟨by omega, h⟩
/-! ### one scope within another -/
def pre (a b : Str) : Bool := decide (b.length > a.length) && (b.take (a.length + 1) == a ++ [46])
def imp (a b : Str) : Bool := (valid a && valid b) && (a == b || pre a b)
theorem valid_len {s : Str} (h : valid s = true) : 1 ≤ s.length ∧ s.length ≤ 64 := word_len (valid_word h)
theorem pre_prefix (a b : Str) (hl : a.length ≤ 64) (hb : b.length ≤ 64) : strings_HasPrefix b (a ++ [46]) = some (pre a b) := by
  have e : (a ++ [46]).length = a.length + 1 := by simp
  unfold strings_HasPrefix internal_stringslite_HasPrefix pre
  rw [e]
  by_cases h : b.length > a.length
  · have h1 : inc 0 ((a.length + 1 : Nat) : Int) b.length = true := by rw [inc_0]; simp; omega
    simp only [show ((b.length : Int) ≥ ((a.length + 1 : Nat) : Int)) by omega, decide_true, if_true, h1, chk_true, cut_0, Option.bind_some, h, Bool.true_and]
  · have h0 : decide ((b.length : Int) ≥ ((a.length + 1 : Nat) : Int)) = false := by simp; omega
    simp only [h0, Bool.false_eq_true, if_false, Option.bind_some, h, decide_false, Bool.false_and]
theorem scope_Implies_eq (a b : Str) (ha : fits a) (hb : fits b) : scope_Implies a b = some (imp a b) := by
  unfold scope_Implies imp
  rw [scope_valid_eq a ha, scope_valid_eq b hb, Option.bind_some]
  cases va : valid a with
  | false => simp
  | true =>
    cases vb : valid b with
    | false => simp
    | true =>
      have la := valid_len va
      have lb := valid_len vb
      have hf : fitS a [46] = true := by simp [fitS]; omega
      simp only [if_true, Option.bind_some, Bool.true_and, hf, chk_true, pre_prefix a b la.2 lb.2]
      cases a == b <;> simp
def cov (l : List Str) (s : Str) : Bool := l.any fun t => imp t s
def within (a b : List Str) : Bool := a.all fun x => cov b x
/-- few enough strings that can be held -/
def sm (l : List Str) : Prop := l.length ≤ 1000 ∧ fitsAll l
theorem sm.at {l : List Str} (h : sm l) {i : Nat} {x : Str} (hx : l[i]? = some x) : fits x := fitsAll_at h.2 hx
theorem scope_covered_eq (s : Str) (l : List Str) (hs : fits s) (hl : sm l) : scope_covered s l = some (cov l s) := by
  have key : ∀ (r : List Str) (i n : Nat), l.drop i = r → i ≤ l.length → r.length < n → scope_covered_L1 n s l (l.length : Int) (i : Int) = some (r.any fun t => imp t s) := by
    have := hl.1
    intro r
    induction r with
    | nil =>
      intro i n hd hi hn
      obtain ⟨n, rfl⟩ : ∃ k, n = k + 1 := ⟨n - 1, by simp at hn; omega⟩
      have := drop_nil hd
      simp [scope_covered_L1, show ¬ ((i : Int) < l.length) by omega]
    | cons x r ih =>
      intro i n hd hi hn
      obtain ⟨n, rfl⟩ : ∃ k, n = k + 1 := ⟨n - 1, by simp at hn; omega⟩
      obtain ⟨h1, h2, h3⟩ := drop_more hd
      have hlt := drop_lt hd
      simp only [scope_covered_L1, show ((i : Int) < l.length) by omega, decide_true, if_true, idx_n, h2, Option.bind_some, scope_Implies_eq x s (hl.at h2) hs, w64n (show i < 9223372036854775807 by omega), ih (i + 1) n h3 (by omega) (by simp at hn; omega), List.any_cons]
      cases imp x s <;> simp
  exact key l 0 fuel rfl (by omega) (by have := hl.1; unfold fuel; omega)
theorem scope_Within_eq (a b : List Str) (ha : sm a) (hb : sm b) : scope_Within a b = some (within a b) := by
  have key : ∀ (r : List Str) (i n : Nat), a.drop i = r → i ≤ a.length → r.length < n → scope_Within_L1 n b a (a.length : Int) (i : Int) = some (r.all fun x => cov b x) := by
    have := ha.1
    intro r
    induction r with
    | nil =>
      intro i n hd hi hn
      obtain ⟨n, rfl⟩ : ∃ k, n = k + 1 := ⟨n - 1, by simp at hn; omega⟩
      have := drop_nil hd
      simp [scope_Within_L1, show ¬ ((i : Int) < a.length) by omega]
    | cons x r ih =>
      intro i n hd hi hn
      obtain ⟨n, rfl⟩ : ∃ k, n = k + 1 := ⟨n - 1, by simp at hn; omega⟩
      obtain ⟨h1, h2, h3⟩ := drop_more hd
      have hlt := drop_lt hd
      simp only [scope_Within_L1, show ((i : Int) < a.length) by omega, decide_true, if_true, idx_n, h2, Option.bind_some, scope_covered_eq x b (ha.at h2) hb, w64n (show i < 9223372036854775807 by omega), ih (i + 1) n h3 (by omega) (by simp at hn; omega), List.all_cons]
      cases cov b x <;> simp
  exact key a 0 fuel rfl (by omega) (by have := ha.1; unfold fuel; omega)
theorem ref03_Same_eq (a b : List Str) (ha : fits a) : ref03_Same a b = some (a == b) := by
  unfold ref03_Same
  by_cases hlen : a.length = b.length
  · have h0 : ((a.length : Int) != (b.length : Int)) = false := by simp [hlen]
    simp only [h0, Bool.false_eq_true, if_false]
    have key : ∀ (r q : List Str) (i n : Nat), a.drop i = r → b.drop i = q → i ≤ a.length → r.length < n → ref03_Same_L1 n a b (i : Int) = some (r == q) := by
      unfold fits at ha
      intro r
      induction r with
      | nil =>
        intro q i n hd hq hi hn
        obtain ⟨n, rfl⟩ : ∃ k, n = k + 1 := ⟨n - 1, by simp at hn; omega⟩
        have := drop_nil hd
        have hq' : q = [] := by rw [← hq]; simp; omega
        subst hq'
        simp [ref03_Same_L1, show ¬ ((i : Int) < a.length) by omega]
      | cons x r ih =>
        intro q i n hd hq hi hn
        obtain ⟨n, rfl⟩ : ∃ k, n = k + 1 := ⟨n - 1, by simp at hn; omega⟩
        obtain ⟨h1, h2, h3⟩ := drop_more hd
        have hlt := drop_lt hd
        cases q with
        | nil => have := drop_nil hq; omega
        | cons y q =>
          obtain ⟨g1, g2, g3⟩ := drop_more hq
          simp only [ref03_Same_L1, show ((i : Int) < a.length) by omega, decide_true, if_true, idx_n, h2, g2, Option.bind_some, w64n (show i < 9223372036854775807 by omega), ih q (i + 1) n h3 g3 (by omega) (by simp at hn; omega), List.cons_beq_cons]
          cases x == y <;> simp
    exact key a b 0 fuel rfl rfl (by omega) (fuel_pos ha)
  · have h0 : ((a.length : Int) != (b.length : Int)) = true := by simp; omega
    have h1 : (a == b) = false := by
      rw [Bool.eq_false_iff]; intro h; exact hlen (by rw [eq_of_beq h])
    simp [h0, h1]
/-- strictly ascending -/
def asc (l : List Str) : Prop := l.Pairwise (· < ·)
def sel (l : List Str) : List Str → List Str → List Str
  | _, [] => []
  | p, x :: r => if !valid x || p.contains x then sel l (p ++ [x]) r else if l.any (fun t => !(t == x) && imp t x) then sel l (p ++ [x]) r else x :: sel l (p ++ [x]) r
def sorted (l : List Str) : List Str := sortS (sel l [] l)
theorem br3 {α : Type} (a b c : Bool) (p q : Option α) : ((if (!a) = true then some b else some false).bind fun z => if z = true then p else if c = true then p else q) = if (!a && b || c) = true then p else q := by
  cases a <;> cases b <;> cases c <;> rfl
theorem scope_Sorted_eq (l : List Str) (hl : sm l) : scope_Sorted l = some (sorted l) := by
  have h1000 := hl.1
  have inner : ∀ (r0 : List Str → List Str → List Str → Int → Int → Option (List Str)) (out : List Str) (x : Str) (i : Nat), out.length ≤ 1000 → i < l.length → fits x →
      ∀ (q : List Str) (k n : Nat), l.drop k = q → k ≤ l.length → q.length < n →
      scope_Sorted_L3 r0 n l out x l (l.length : Int) (i : Int) l (l.length : Int) (k : Int) =
        if q.any (fun t => !(t == x) && imp t x) then r0 l out l (l.length : Int) ((i + 1 : Nat) : Int) else r0 l (out ++ [x]) l (l.length : Int) ((i + 1 : Nat) : Int) := by
    intro r0 out x i ho hi hx q
    induction q with
    | nil =>
      intro k n hd hk hn
      obtain ⟨n, rfl⟩ : ∃ k, n = k + 1 := ⟨n - 1, by simp at hn; omega⟩
      have := drop_nil hd
      have hf : fitL out.length ([x] : List Str).length = true := by simp [fitL]; omega
      rw [scope_Sorted_L3]
      simp only [show ¬ ((k : Int) < l.length) by omega, decide_false, Bool.false_eq_true, if_false, hf, chk_true, scope_Sorted_B2, w64n (show i < 9223372036854775807 by omega), List.any_nil]
    | cons y q ih =>
      intro k n hd hk hn
      obtain ⟨n, rfl⟩ : ∃ k, n = k + 1 := ⟨n - 1, by simp at hn; omega⟩
      obtain ⟨h1, h2, h3⟩ := drop_more hd
      have hlt := drop_lt hd
      rw [scope_Sorted_L3]
      simp only [show ((k : Int) < l.length) by omega, decide_true, if_true, idx_n, h2, Option.bind_some, scope_Implies_eq y x (hl.at h2) hx, w64n (show k < 9223372036854775807 by omega), w64n (show i < 9223372036854775807 by omega), ih (k + 1) n h3 (by omega) (by simp at hn; omega), List.any_cons, scope_Sorted_B2]
      exact br3 _ _ _ _ _
  have key : ∀ (r : List Str) (i n : Nat) (out : List Str), l.drop i = r → i ≤ l.length → out.length ≤ i → r.length < n →
      scope_Sorted_L1 n l out l (l.length : Int) (i : Int) = some (sortS (out ++ sel l (l.take i) r)) := by
    intro r
    induction r with
    | nil =>
      intro i n out hd hi ho hn
      obtain ⟨n, rfl⟩ : ∃ k, n = k + 1 := ⟨n - 1, by simp at hn; omega⟩
      have := drop_nil hd
      have hs : decide (out.length < 4611686018427387904) = true := by simp; omega
      simp only [scope_Sorted_L1, show ¬ ((i : Int) < l.length) by omega, decide_false, Bool.false_eq_true, if_false, lib_Sort, hs, chk_true, Option.bind_some, sel, List.append_nil]
    | cons x r ih =>
      intro i n out hd hi ho hn
      obtain ⟨n, rfl⟩ : ∃ k, n = k + 1 := ⟨n - 1, by simp at hn; omega⟩
      obtain ⟨h1, h2, h3⟩ := drop_more hd
      have hlt := drop_lt hd
      have hi' : inc 0 (i : Int) l.length = true := by rw [inc_0]; simp; omega
      have hft : fits (l.take i) := by unfold fits; rw [take_len hlt]; omega
      have hin := inner (scope_Sorted_L1 n) out x i (by omega) hlt (hl.at h2) l 0 fuel rfl (by omega) (by unfold fuel; omega)
      have hin' : scope_Sorted_L3 (scope_Sorted_L1 n) fuel l out x l (l.length : Int) (i : Int) l (l.length : Int) 0 = _ := hin
      have e1 := ih (i + 1) n out h3 (by omega) (by omega) (by simp at hn; omega)
      have e2 := ih (i + 1) n (out ++ [x]) h3 (by omega) (by simp; omega) (by simp at hn; omega)
      simp only [scope_Sorted_L1, show ((i : Int) < l.length) by omega, decide_true, if_true, idx_n, h2, Option.bind_some, scope_valid_eq x (hl.at h2), hi', chk_true, cut_0, slices_Contains_eq _ _ hft, hin', scope_Sorted_B2, w64n (show i < 9223372036854775807 by omega), e1, e2, sel, take_more hd]
      cases valid x <;> cases (l.take i).contains x <;> cases l.any (fun t => !(t == x) && imp t x) <;> simp
  have := key l 0 fuel [] rfl (by omega) (by simp) (by unfold fuel; omega)
  simpa [scope_Sorted, sorted] using this
theorem put_set {K V : Type} [DecidableEq K] {key : K} {r x : V} : ∀ {l : List (K × V)} {k : Nat}, l[k]? = some (key, r) → (∀ q ∈ l.take k, q.1 ≠ key) → mputL key x l = l.set k (key, x)
  | [], k, h, _ => by simp at h
  | p :: l, 0, h, _ => by
    simp at h; subst h
    simp [mputL]
  | p :: l, k + 1, h, ht => by
    have hp := ht p (by simp)
    unfold mputL
    rw [if_neg (fun e => hp e.symm), put_set (k := k) (by simpa using h) (fun q hq => ht q (by simp [hq]))]
    rfl
theorem put_none {K V : Type} [DecidableEq K] {key : K} {x : V} : ∀ {l : List (K × V)}, mfind key l = none → mputL key x l = l ++ [(key, x)]
  | [], _ => rfl
  | p :: l, h => by
    unfold mfind at h
    split at h
    · cases h
    · rename_i e
      unfold mputL
      rw [if_neg e, put_none h]; rfl
/-! ### delegations -/
theorem awake35 : law35_awake = some true := by kernel_rfl
abbrev WL := List (delegate_way × delegate_delegation)
abbrev toOne (p : delegate_way × delegate_delegation) : ref35_one := ⟨p.1.from_, p.1.to_, p.2.scopes, p.2.window⟩
def vt (t : Int) : Bool := t == lim t
theorem clock_Valid_eq (t : Int) : clock_Valid t = some (vt t) := rfl
def ckW (w : api_Window) (t : Int) : Int := if w.From > w.Until then 2 else if lim t < w.From then 14 else if lim t ≥ w.Until then 13 else 0
theorem clock_Check_eq (w : api_Window) (t : Int) : clock_Check w t 0 = some (ckW w t) := by
  unfold clock_Check ckW
  have h := lim_range t
  have e1 : clock_limited t = some (lim t) := rfl
  have e2 : gmin (gmax 0 0) 600 = 0 := rfl
  rw [e1, Option.bind_some, e2, w64 (show -9223372036854775808 ≤ lim t + 0 by omega) (by omega), w64 (show -9223372036854775808 ≤ lim t - 0 by omega) (by omega), Int.add_zero, Int.sub_zero]
  by_cases a : w.From > w.Until
  · rw [if_pos (decide_eq_true a), if_pos a]
  rw [if_neg (by simpa using a), if_neg a]
  by_cases b : lim t < w.From
  · rw [if_pos (decide_eq_true b), if_pos b]
  rw [if_neg (by simpa using b), if_neg b]
  by_cases c : lim t ≥ w.Until
  · rw [if_pos (decide_eq_true c), if_pos c]
  rw [if_neg (by simpa using c), if_neg c]
/-- what a delegation holds -/
structure goodW (p : delegate_way × delegate_delegation) : Prop where
  frm : word p.1.from_ = true
  to : word p.1.to_ = true
  ne : p.1.from_ ≠ p.1.to_
  ck : ck p.2.scopes = 0
  some : p.2.scopes ≠ []
theorem goodW.sm {p : delegate_way × delegate_delegation} (h : goodW p) : sm p.2.scopes := by
  have h1 := ck_ok h.ck
  exact ⟨by omega, fun s hs => (word_fits (valid_word (ckL_ok [] h1.2 s hs)))⟩
theorem goodW.len {p : delegate_way × delegate_delegation} (h : goodW p) : p.2.scopes.length ≤ 16 := (ck_ok h.ck).1
structure Inv (l : WL) : Prop where
  nd : nodupK l
  len : l.length ≤ 256
  good : ∀ p ∈ l, goodW p
theorem inv_new : Inv [] := ⟨nodupK_nil, by simp, fun p h => by cases h⟩
theorem made_eq (l : WL) : delegate_Delegations_made ⟨some l⟩ = some true := rfl
def mayR (l : WL) (f t : Str) (sc : List Str) (now : Int) : Int :=
  match mfind ⟨f, t⟩ l with
  | none => 11
  | some d => if ckW d.window now ≠ 0 then ckW d.window now else if within sc d.scopes then 0 else 19
theorem Inv.at {l : WL} (h : Inv l) {k : delegate_way} {d : delegate_delegation} (hf : mfind k l = some d) : goodW (k, d) := h.good _ (mfind_mem hf)
theorem opt_cases {α : Type} (o : Option α) : o = none ∨ ∃ r, o = some r := by cases o <;> simp
theorem may_eq {l : WL} (h : Inv l) (f t : Str) {sc : List Str} (hs : sm sc) (now : Int) : delegate_Delegations_May ⟨some l⟩ f t sc now = some (mayR l f t sc now) := by
  unfold delegate_Delegations_May mayR mgetD mhas
  simp only [made_eq, Option.bind_some, Bool.not_true, Bool.false_eq_true, if_false, Option.getD_some]
  rcases opt_cases (mfind (⟨f, t⟩ : delegate_way) l) with hf | ⟨d, hf⟩
  · simp only [hf]; rfl
  · simp only [hf, Option.isSome_some, Bool.not_true, Bool.false_eq_true, if_false, Option.getD_some, clock_Check_eq, Option.bind_some, scope_Within_eq _ _ hs (h.at hf).sm]
    by_cases hc : ckW d.window now ≠ 0
    · rw [if_pos (by simpa using hc), if_pos hc]
    · rw [if_neg (by simpa using hc), if_neg hc]
      cases within sc d.scopes <;> rfl
/-- where a delegation lies -/
structure At (l : WL) (f t : Str) (k : Nat) (d : delegate_delegation) : Prop where
  get : l[k]? = some (⟨f, t⟩, d)
  pre : ∀ q ∈ l.take k, q.1 ≠ ⟨f, t⟩
theorem At.lt {l : WL} {f t : Str} {k : Nat} {d : delegate_delegation} (h : At l f t k d) : k < l.length := (List.getElem?_eq_some_iff.1 h.get).1
theorem At.put {l : WL} {f t : Str} {k : Nat} {d x : delegate_delegation} (h : At l f t k d) : setAt (l.map toOne) (k : Int) ⟨f, t, x.scopes, x.window⟩ = (mputL ⟨f, t⟩ x l).map toOne := by
  rw [put_set h.get h.pre, List.map_set]
  simp [setAt]
/-- Allow -/
def alE (l : WL) (f t : Str) (sc : List Str) (w : api_Window) : Int :=
  if (!word f || !word t) then 5 else if f = t then 28 else if ck sc ≠ 0 then ck sc else if sc = [] then 6 else if ((!vt w.From || !vt w.Until) || decide (w.From ≥ w.Until)) then 2
  else if (mfind (⟨f, t⟩ : delegate_way) l).isSome = false ∧ 256 ≤ l.length then 3 else 0
def alL (l : WL) (f t : Str) (sc : List Str) (w : api_Window) : WL := if alE l f t sc w = 0 then mputL ⟨f, t⟩ ⟨sc, w⟩ l else l
theorem mlen_some {K V : Type} (l : List (K × V)) : mlen (some l) = (l.length : Int) := by unfold mlen; simp
theorem or3 (a b : Bool) : (if (!a) = true then some true else some (!b)) = some (!a || !b) := by cases a <;> rfl
theorem allow_eq {l : WL} (h : Inv l) (f t : Str) {sc : List Str} (w : api_Window) (hf : fits f) (ht : fits t) (hs : sm sc) :
    delegate_Delegations_Allow ⟨some l⟩ f t sc w = some (alE l f t sc w, ⟨some (alL l f t sc w)⟩) := by
  unfold delegate_Delegations_Allow alL
  have hc : lib_Clone sc = some sc := by unfold lib_Clone; rw [chk_t (by have := hs.1; simp; omega)]
  simp only [made_eq, Option.bind_some, Bool.not_true, Bool.false_eq_true, if_false, fold_Word_eq f hf, fold_Word_eq t ht, or3, scope_Check_eq sc hs.2, clock_Valid_eq, hc]
  by_cases h1 : (!word f || !word t) = true
  · have hE : alE l f t sc w = 5 := by unfold alE; rw [if_pos h1]
    rw [if_pos h1, hE, if_neg (by decide)]
  rw [if_neg h1]
  by_cases h2 : f = t
  · have hE : alE l f t sc w = 28 := by unfold alE; rw [if_neg h1, if_pos h2]
    rw [if_pos (by simpa using h2), hE, if_neg (by decide)]
  rw [if_neg (by simpa using h2)]
  by_cases h3 : ck sc ≠ 0
  · have hE : alE l f t sc w = ck sc := by unfold alE; rw [if_neg h1, if_neg h2, if_pos h3]
    rw [if_pos (by simpa using h3), hE, if_neg h3]
  rw [if_neg (by simpa using h3)]
  by_cases h4 : sc = []
  · have hE : alE l f t sc w = 6 := by unfold alE; rw [if_neg h1, if_neg h2, if_neg h3, if_pos h4]
    rw [if_pos (by simp [h4]), hE, if_neg (by decide)]
  rw [if_neg (by simp [h4])]
  by_cases h5 : ((!vt w.From || !vt w.Until) || decide (w.From ≥ w.Until)) = true
  · have hE : alE l f t sc w = 2 := by unfold alE; rw [if_neg h1, if_neg h2, if_neg h3, if_neg h4, if_pos h5]
    rw [if_pos h5, hE, if_neg (by decide)]
  rw [if_neg h5]
  have hE : alE l f t sc w = if (mfind (⟨f, t⟩ : delegate_way) l).isSome = false ∧ 256 ≤ l.length then 3 else 0 := by unfold alE; rw [if_neg h1, if_neg h2, if_neg h3, if_neg h4, if_neg h5]
  rw [hE, mlen_some]
  unfold mhas
  simp only [Option.getD_some]
  by_cases h6 : (mfind (⟨f, t⟩ : delegate_way) l).isSome = false ∧ 256 ≤ l.length
  · rw [if_pos (by simp [h6.1]; omega), if_pos h6, if_neg (by decide)]
  · have : ¬ ((!(mfind (⟨f, t⟩ : delegate_way) l).isSome) && decide ((l.length : Int) ≥ 256)) = true := by
      intro e
      simp only [Bool.and_eq_true, Bool.not_eq_true', decide_eq_true_eq] at e
      exact h6 ⟨e.1, by omega⟩
    rw [if_neg this, if_neg h6, if_pos rfl]
    rfl
theorem alE_ok {l : WL} {f t : Str} {sc : List Str} {w : api_Window} (h : alE l f t sc w = 0) : goodW (⟨f, t⟩, ⟨sc, w⟩) ∧ w.From < w.Until ∧ ((mfind (⟨f, t⟩ : delegate_way) l).isSome = true ∨ l.length < 256) := by
  unfold alE at h
  by_cases h1 : (!word f || !word t) = true
  · rw [if_pos h1] at h; cases h
  rw [if_neg h1] at h
  by_cases h2 : f = t
  · rw [if_pos h2] at h; cases h
  rw [if_neg h2] at h
  by_cases h3 : ck sc ≠ 0
  · rw [if_pos h3] at h; exact absurd h h3
  rw [if_neg h3] at h
  by_cases h4 : sc = []
  · rw [if_pos h4] at h; cases h
  rw [if_neg h4] at h
  by_cases h5 : ((!vt w.From || !vt w.Until) || decide (w.From ≥ w.Until)) = true
  · rw [if_pos h5] at h; cases h
  rw [if_neg h5] at h
  simp only [Bool.or_eq_true, Bool.not_eq_true', not_or, Bool.not_eq_false] at h1
  simp only [Bool.or_eq_true, Bool.not_eq_true', not_or, Bool.not_eq_false, decide_eq_true_eq] at h5
  refine ⟨⟨h1.1, h1.2, h2, by simpa using h3, h4⟩, by omega, ?_⟩
  by_cases h6 : (mfind (⟨f, t⟩ : delegate_way) l).isSome = false ∧ 256 ≤ l.length
  · rw [if_pos h6] at h; cases h
  · cases hm : (mfind (⟨f, t⟩ : delegate_way) l).isSome with
    | true => exact .inl rfl
    | false => exact .inr (by simp only [hm, true_and] at h6; omega)
theorem inv_put {l : WL} (h : Inv l) {k : delegate_way} {x : delegate_delegation} (hk : (mfind k l).isSome = true ∨ l.length < 256) (hg : goodW (k, x)) : Inv (mputL k x l) := by
  refine ⟨nodupK_put h.nd, ?_, fun p hp => ?_⟩
  · rw [len_put]
    have := h.len
    rcases hk with hk | hk
    · rw [if_pos hk]; exact this
    · split <;> omega
  · rcases mem_put hp with rfl | hp
    · exact hg
    · exact h.good p hp
theorem inv_al {l : WL} (h : Inv l) (f t : Str) (sc : List Str) (w : api_Window) : Inv (alL l f t sc w) := by
  unfold alL
  split
  · rename_i e
    obtain ⟨a, _, b⟩ := alE_ok e
    exact inv_put h b a
  · exact h
/-- Drop -/
def touches (u : Str) (p : delegate_way × delegate_delegation) : Bool := (p.1.from_ == u) || (p.1.to_ == u)
def others (u : Str) (l : WL) : WL := l.filter fun p => !touches u p
theorem del_mem {e : delegate_way × delegate_delegation} {l : WL} (hn : nodupK l) (he : e ∈ l) {p : delegate_way × delegate_delegation} : p ∈ mdelL e.1 l ↔ p ∈ l ∧ p.1 ≠ e.1 := by
  rw [del_filter hn, List.mem_filter]; simp
theorem dropf_loop (u : Str) (l0 : WL) (hn0 : nodupK l0) : ∀ (k : Nat) (l : WL) (done : List delegate_way) (n : Nat), (leftL l done).length = k → k < n → nodupK l → others u l = others u l0 → (∀ p ∈ l, p.1 ∈ done → touches u p = false) →
    maps_DeleteFunc_map_delegate_way_delegate_delegation_delegate_way_delegate_delegation__Delegations_Drop_1_L1 n (some l) u done = some (some (others u l0)) := by
  intro k
  induction k with
  | zero =>
    intro l done n hk hn hnd ho hd
    obtain ⟨n, rfl⟩ : ∃ k, n = k + 1 := ⟨n - 1, by omega⟩
    have e := List.eq_nil_of_length_eq_zero hk
    unfold maps_DeleteFunc_map_delegate_way_delegate_delegation_delegate_way_delegate_delegation__Delegations_Drop_1_L1
    rw [mleft_some, e]
    refine pickAny_of (fun _ => ?_) (fun e he => by cases he)
    rw [← ho]
    congr 2
    symm
    refine List.filter_eq_self.2 fun p hp => ?_
    have : p.1 ∈ done := by
      refine Classical.byContradiction fun hc => ?_
      have : p ∈ leftL l done := List.mem_filter.2 ⟨hp, by simpa using hc⟩
      rw [e] at this; cases this
    rw [hd p hp this]; rfl
  | succ k ih =>
    intro l done n hk hn hnd ho hd
    obtain ⟨n, rfl⟩ : ∃ k, n = k + 1 := ⟨n - 1, by omega⟩
    unfold maps_DeleteFunc_map_delegate_way_delegate_delegation_delegate_way_delegate_delegation__Delegations_Drop_1_L1
    rw [mleft_some]
    refine pickAny_of (fun e => by rw [e] at hk; cases hk) (fun e he => ?_)
    obtain ⟨he1, he2⟩ := leftL_mem he
    have hlen := leftL_len hnd he
    unfold delegate_Delegations_Drop_1 maps_DeleteFunc_map_delegate_way_delegate_delegation_delegate_way_delegate_delegation__Delegations_Drop_1_B2
    rw [Option.bind_some]
    have ht : (e.1.from_ == u || e.1.to_ == u) = touches u e := rfl
    rw [ht]
    cases hx : touches u e with
    | true =>
      rw [if_pos rfl]
      have hm : mdel (some l) e.1 = some (mdelL e.1 l) := rfl
      rw [hm]
      have e1 : leftL (mdelL e.1 l) (e.1 :: done) = leftL l (e.1 :: done) := by
        rw [del_filter hnd]
        unfold leftL
        rw [List.filter_filter]
        refine List.filter_congr fun p _ => ?_
        by_cases hp : p.1 = e.1 <;> simp [hp]
      refine ih _ _ n (by rw [e1]; omega) (by omega) (nodupK_del hnd) ?_ fun p hp hpd => ?_
      · rw [← ho, del_filter hnd]
        unfold others
        rw [List.filter_filter]
        refine List.filter_congr fun p hp => ?_
        by_cases hpe : p.1 = e.1
        · have : p = e := by
            have h1 := mfind_of_mem hnd (show (p.1, p.2) ∈ l from hp)
            have h2 := mfind_of_mem hnd (show (e.1, e.2) ∈ l from he1)
            rw [hpe, h2] at h1
            exact Prod.ext hpe (Option.some.inj h1).symm
          subst this; simp [hx]
        · simp [hpe]
      · obtain ⟨q1, q2⟩ := (del_mem hnd he1).1 hp
        refine hd p q1 ?_
        rcases List.mem_cons.1 hpd with h | h
        · exact absurd h q2
        · exact h
    | false =>
      rw [if_neg (by simp)]
      refine ih _ _ n (by omega) (by omega) hnd ho fun p hp hpd => ?_
      rcases List.mem_cons.1 hpd with h | h
      · have : p = e := by
          have h1 := mfind_of_mem hnd (show (p.1, p.2) ∈ l from hp)
          have h2 := mfind_of_mem hnd (show (e.1, e.2) ∈ l from he1)
          rw [h, h2] at h1
          exact Prod.ext h (Option.some.inj h1).symm
        subst this; exact hx
      · exact hd p hp h
theorem others_len (u : Str) (l : WL) : (others u l).length ≤ l.length := List.length_filter_le _ _
theorem drop_eq {l : WL} (h : Inv l) (u : Str) : delegate_Delegations_Drop ⟨some l⟩ u = some ((l.length : Int) - ((others u l).length : Int), ⟨some (others u l)⟩) := by
  have hl := h.len
  have ho := others_len u l
  unfold delegate_Delegations_Drop maps_DeleteFunc_map_delegate_way_delegate_delegation_delegate_way_delegate_delegation__Delegations_Drop_1
  have := dropf_loop u l h.nd l.length l [] fuel (by rw [leftL_nil]) (by unfold fuel; omega) h.nd rfl (fun p _ hp => by cases hp)
  rw [made_eq, Option.bind_some, if_neg (by simp)]
  simp only
  rw [this, Option.bind_some, mlen_some, mlen_some, w64 (by omega) (by omega)]
theorem sm_nil : sm [] := ⟨by simp, fun s h => by cases h⟩
def scR (l : WL) (f t : Str) (now : Int) : List Str := if mayR l f t [] now ≠ 0 then [] else sorted ((mfind (⟨f, t⟩ : delegate_way) l).getD ⟨[], ⟨0, 0⟩⟩).scopes
theorem may_some {l : WL} {f t : Str} {sc : List Str} {now : Int} (h : mayR l f t sc now = 0) : ∃ d, mfind ⟨f, t⟩ l = some d ∧ ckW d.window now = 0 ∧ within sc d.scopes = true := by
  unfold mayR at h
  rcases opt_cases (mfind (⟨f, t⟩ : delegate_way) l) with hf | ⟨d, hf⟩
  · rw [hf] at h; cases h
  · rw [hf] at h
    simp only at h
    by_cases hc : ckW d.window now ≠ 0
    · rw [if_pos hc] at h; exact absurd h hc
    · rw [if_neg hc] at h
      cases hw : within sc d.scopes with
      | true => exact ⟨d, hf, by simpa using hc, hw⟩
      | false => rw [hw] at h; cases h
theorem scopes_eq {l : WL} (h : Inv l) (f t : Str) (now : Int) : delegate_Delegations_Scopes ⟨some l⟩ f t now = some (scR l f t now) := by
  unfold delegate_Delegations_Scopes scR
  rw [may_eq h f t sm_nil, Option.bind_some]
  by_cases hm : mayR l f t [] now ≠ 0
  · rw [if_pos (by simpa using hm), if_pos hm]
  · rw [if_neg (by simpa using hm), if_neg hm]
    obtain ⟨d, hf, _⟩ := may_some (by simpa using hm)
    unfold mgetD
    simp only [Option.getD_some, hf, Option.bind_some, scope_Sorted_eq _ (h.at hf).sm]
/-! ### who is reached -/
def ed (l : WL) (s : Str) (now : Int) (p : delegate_way × delegate_delegation) : Bool := mayR l p.1.from_ p.1.to_ [s] now == 0
inductive Rch (l : WL) (s : Str) (now : Int) (to : Str) : Str → Prop
  | base : Rch l s now to to
  | step (p : delegate_way × delegate_delegation) : p ∈ l → Rch l s now to p.1.to_ → ed l s now p = true → Rch l s now to p.1.from_
/-- the sorted list of those that are reached -/
structure IsR (l : WL) (s : Str) (now : Int) (to : Str) (X : List Str) : Prop where
  asc : asc X
  mem : ∀ x, x ∈ X ↔ Rch l s now to x ∧ x ≠ to
theorem nodup_le : ∀ {A B : List Str}, A.Nodup → (∀ x ∈ A, x ∈ B) → A.length ≤ B.length
  | [], _, _, _ => by simp
  | a :: r, B, hn, h => by
    rw [List.nodup_cons] at hn
    have ha := h a (by simp)
    have := nodup_le (A := r) (B := B.erase a) hn.2 fun x hx => by
      have hne : x ≠ a := fun e => hn.1 (e ▸ hx)
      exact (List.mem_erase_of_ne hne).2 (h x (by simp [hx]))
    rw [List.length_erase_of_mem ha] at this
    have : 0 < B.length := List.length_pos_of_mem ha
    simp only [List.length_cons]; omega
abbrev SL := List (Str × Bool)
abbrev keys (m : SL) : List Str := m.map Prod.fst
/-- what the walk knows: c were taken off the queue q, m are seen -/
structure RI (l : WL) (s : Str) (now : Int) (to : Str) (m : SL) (q : List Str) (c : Nat) : Prop where
  nd : nodupK m
  val : ∀ p ∈ m, p.2 = true
  sub : ∀ x ∈ q, x ∈ keys m
  sound : ∀ x ∈ keys m, Rch l s now to x
  hto : to ∈ keys m
  from_ : ∀ x ∈ keys m, x = to ∨ x ∈ l.map (·.1.from_)
  cnt : c + q.length = m.length
theorem RI.len {l : WL} {s : Str} {now : Int} {to : Str} {m : SL} {q : List Str} {c : Nat} (h : RI l s now to m q c) : m.length ≤ l.length + 1 := by
  have := nodup_le (A := keys m) (B := to :: l.map (·.1.from_)) h.nd fun x hx => by rcases h.from_ x hx with e | e <;> simp [e]
  simpa [keys] using this
structure RS (l : WL) (s : Str) (now : Int) (to : Str) (m : List Str) : Prop where
  nd : m.Nodup
  hd : ∃ r, m = to :: r
  sound : ∀ x ∈ m, Rch l s now to x
  from_ : ∀ x ∈ m, x = to ∨ x ∈ l.map (·.1.from_)
theorem RS.len {l : WL} {s : Str} {now : Int} {to : Str} {m : List Str} (h : RS l s now to m) : m.length ≤ l.length + 1 := by
  have := nodup_le (B := to :: l.map (·.1.from_)) h.nd fun x hx => by rcases h.from_ x hx with e | e <;> simp [e]
  simpa using this
/-! ### gates -/
def shortL (l : List Str) : Prop := l.length ≤ 20 ∧ ∀ s ∈ l, s.length ≤ 200
theorem shortL.sm {l : List Str} (h : shortL l) : sm l := ⟨by have := h.1; omega, fun s hs => by have := h.2 s hs; unfold fits; omega⟩
structure smallO (o : law35_Op) : Prop where
  frm : o.From.length ≤ 200
  to : o.To.length ≤ 200
  sc : shortL o.Scopes
theorem same_self (l : List Str) (h : l.length ≤ 1000) : ref03_Same l l = some true := by rw [ref03_Same_eq l l (by unfold fits; omega)]; simp
/-! ### limits -/
def nms : List Str := (List.range 300).map fun i : Nat => (law35_name (i : Int)).getD []
theorem nms_len : nms.length = 300 := by simp [nms]
theorem nms_some : ((List.range 300).all fun i : Nat => (law35_name (i : Int)).isSome) = true := by kernel_rfl
theorem nms_word : (nms.all fun s => word s && (s.head? == some 117)) = true := by kernel_rfl
def nd : List Str → Bool
  | [] => true
  | x :: r => !r.contains x && nd r
theorem nd_ok : ∀ {l : List Str}, nd l = true → l.Nodup
  | [], _ => List.nodup_nil
  | x :: r, h => by
    unfold nd at h
    simp only [Bool.and_eq_true, Bool.not_eq_true'] at h
    rw [List.nodup_cons]
    exact ⟨(fun hx => by rw [List.contains_iff_mem.2 hx] at h; cases h.1), nd_ok h.2⟩
theorem nms_nd : nms.Nodup := nd_ok (by kernel_rfl)
theorem name_eq {i : Nat} (h : i < 300) : law35_name (i : Int) = some (nms[i]'(by rw [nms_len]; exact h)) := by
  have h1 := List.all_eq_true.1 nms_some i (List.mem_range.2 h)
  obtain ⟨s, hs⟩ := Option.isSome_iff_exists.1 h1
  have : nms[i]'(by rw [nms_len]; exact h) = s := by simp [nms, hs]
  rw [this, hs]
abbrev ann : Str := [97, 110, 110]
theorem name_ok {s : Str} (h : s ∈ nms) : word s = true ∧ s ≠ ann := by
  have := List.all_eq_true.1 nms_word s h
  simp only [Bool.and_eq_true, beq_iff_eq] at this
  refine ⟨this.1, fun e => ?_⟩
  rw [e] at this
  exact absurd this.2 (by decide)
def da : delegate_delegation := ⟨[[97]], ⟨0, 9⟩⟩
def lst (k : Nat) : WL := (nms.take k).map fun s => (⟨ann, s⟩, da)
theorem lst_len {k : Nat} (h : k ≤ 300) : (lst k).length = k := by unfold lst; rw [List.length_map, List.length_take, nms_len]; omega
theorem lst_nd (k : Nat) : nodupK (lst k) := by
  unfold nodupK lst
  rw [List.map_map]
  have h1 : (nms.take k).Nodup := (List.take_sublist k nms).nodup nms_nd
  refine List.Pairwise.map _ ?_ h1
  intro a b hab e
  simp only [Function.comp, delegate_way.mk.injEq] at e
  exact hab e.2
theorem al_name {l : WL} {s : Str} (hs : s ∈ nms) (c : UInt8) (hc : c = 97 ∨ c = 98) : alE l ann s [[c]] ⟨0, 9⟩ = if (mfind (⟨ann, s⟩ : delegate_way) l).isSome = false ∧ 256 ≤ l.length then 3 else 0 := by
  obtain ⟨h1, h2⟩ := name_ok hs
  unfold alE
  rw [h1, if_neg (by decide), if_neg (fun e => h2 e.symm), if_neg (by rcases hc with rfl | rfl <;> decide), if_neg (by simp), if_neg (by decide)]
theorem inv_lst {k : Nat} (h : k ≤ 256) : Inv (lst k) := by
  refine ⟨lst_nd k, by rw [lst_len (by omega)]; exact h, fun p hp => ?_⟩
  obtain ⟨s, hs, rfl⟩ := List.mem_map.1 hp
  obtain ⟨h1, h2⟩ := name_ok (List.mem_of_mem_take hs)
  exact ⟨(by decide : word ann = true), h1, (fun e => h2 (Eq.symm e)), (by decide : ck [[97]] = 0), by simp [da]⟩
theorem find_lst {k i : Nat} (h : i < 300) : mfind (⟨ann, nms[i]'(by rw [nms_len]; exact h)⟩ : delegate_way) (lst k) = if i < k then some da else none := by
  have hl : i < nms.length := by rw [nms_len]; exact h
  split
  · rename_i hk
    refine mfind_of_mem (lst_nd k) (List.mem_map.2 ⟨nms[i], ?_, rfl⟩)
    refine List.mem_iff_getElem?.2 ⟨i, ?_⟩
    rw [List.getElem?_take, if_pos hk, List.getElem?_eq_getElem hl]
  · rename_i hk
    rw [mfind_none]
    intro p hp e
    obtain ⟨s, hs, rfl⟩ := List.mem_map.1 hp
    simp only [delegate_way.mk.injEq, true_and] at e
    obtain ⟨j, hj⟩ := List.mem_iff_getElem?.1 hs
    rw [List.getElem?_take] at hj
    split at hj
    · rename_i hjk
      obtain ⟨hjl, hj⟩ := List.getElem?_eq_some_iff.1 hj
      rw [e] at hj
      have := (List.getElem_inj nms_nd).1 hj
      omega
    · cases hj
theorem lst_succ {k : Nat} (h : k < 300) : lst (k + 1) = lst k ++ [(⟨ann, nms[k]'(by rw [nms_len]; exact h)⟩, da)] := by
  have hl : k < nms.length := by rw [nms_len]; exact h
  unfold lst
  rw [List.take_add_one, List.getElem?_eq_getElem hl, List.map_append]; rfl
theorem fits_name {s : Str} (h : s ∈ nms) : fits s := word_fits (name_ok h).1
theorem others_ann {l : WL} (h : ∀ p ∈ l, p.1.from_ = ann) : others ann l = [] := by
  unfold others
  rw [List.filter_eq_nil_iff]
  intro p hp
  simp [touches, h p hp]
theorem from_ann {k : Nat} : ∀ p ∈ lst k, p.1.from_ = ann := fun p hp => by
  obtain ⟨s, _, rfl⟩ := List.mem_map.1 hp; rfl
theorem sm_c {c : UInt8} : sm [[c]] := ⟨by simp, fun s hs => by simp at hs; subst hs; simp [fits]⟩
theorem fits_ann : fits ann := by simp [fits]
theorem limits_end (N : Nat) (hN : N ≤ 300) (h0 : 0 < N) : (law35_name 0).bind (fun y812 =>
          (delegate_Delegations_Allow ⟨some (lst (min N 256))⟩ ([97, 110, 110]) y812 ([[98]] : List Str) (api_Window.mk 0 9)).bind fun y824 =>
            if y824.1 == 0 then
              (delegate_Delegations_Scopes y824.2 ([97, 110, 110]) y812 1).bind fun y863 =>
                (ref03_Same y863 ([[98]] : List Str)).bind fun y877 =>
                  if y877 then
                    (delegate_Delegations_Drop y824.2 ([97, 110, 110])).bind fun y884 =>
                      if y884.1 == (gmin (N : Int) 256) then
                        (law35_awake).bind fun y895 =>
                          some (y895)
                      else
                        some (false)
                  else
                    some (false)
            else
              some (false)) = some true := by
  have hn := name_eq (i := 0) (by omega)
  rw [show ((0 : Nat) : Int) = 0 from rfl] at hn
  have h00 : 0 < nms.length := by rw [nms_len]; omega
  have hmem : nms[0] ∈ nms := List.getElem_mem h00
  have hi := inv_lst (k := min N 256) (by omega)
  have hfd := find_lst (k := min N 256) (i := 0) (by omega)
  rw [if_pos (by omega)] at hfd
  have hE : alE (lst (min N 256)) ann nms[0] [[98]] ⟨0, 9⟩ = 0 := by rw [al_name hmem 98 (.inr rfl), hfd, if_neg (by simp)]
  have hL : alL (lst (min N 256)) ann nms[0] [[98]] ⟨0, 9⟩ = mputL ⟨ann, nms[0]⟩ ⟨[[98]], ⟨0, 9⟩⟩ (lst (min N 256)) := by unfold alL; rw [if_pos hE]
  have hi2 := inv_al hi ann nms[0] [[98]] ⟨0, 9⟩
  rw [hn, Option.bind_some, allow_eq hi _ _ _ fits_ann (fits_name hmem) sm_c, Option.bind_some, hE, if_pos (by rfl), scopes_eq hi2, Option.bind_some]
  have hsc : scR (alL (lst (min N 256)) ann nms[0] [[98]] ⟨0, 9⟩) ann nms[0] 1 = [[98]] := by
    unfold scR mayR
    rw [hL, mfind_put_self]
    simp only
    rw [if_neg (by decide)]
    decide
  rw [hsc, same_self _ (by simp), Option.bind_some, if_pos rfl, drop_eq hi2, Option.bind_some]
  have ho : others ann (alL (lst (min N 256)) ann nms[0] [[98]] ⟨0, 9⟩) = [] := by
    refine others_ann fun p hp => ?_
    rw [hL] at hp
    rcases mem_put hp with rfl | hp
    · rfl
    · exact from_ann p hp
  have hlen : (alL (lst (min N 256)) ann nms[0] [[98]] ⟨0, 9⟩).length = min N 256 := by
    rw [hL, len_put, hfd, if_pos (show (some da).isSome = true from rfl), lst_len (by omega)]
  have hg : gmin (N : Int) 256 = ((min N 256 : Nat) : Int) := by unfold gmin; split <;> omega
  rw [ho, hlen, hg, if_pos (by simp), awake35]; rfl
theorem limits_loop (N : Nat) (hN : N ≤ 300) : ∀ (k i n : Nat), N - i = k → k < n → i ≤ N → law35_DelegateLimits_L1 n (N : Int) ⟨some (lst (min i 256))⟩ 0 9 (i : Int) = some true := by
  intro k
  induction k with
  | zero =>
    intro i n hk hn hi
    obtain ⟨n, rfl⟩ : ∃ k, n = k + 1 := ⟨n - 1, by omega⟩
    have e : i = N := by omega
    subst e
    unfold law35_DelegateLimits_L1
    rw [if_neg (by simp)]
    by_cases h0 : i = 0
    · subst h0
      have hl0 : lst (min 0 256) = [] := rfl
      rw [if_pos (by rfl), hl0, drop_eq inv_new, Option.bind_some, if_pos (by rfl), awake35]; rfl
    · rw [if_neg (by simp; omega)]
      exact limits_end i hN (by omega)
  | succ k ih =>
    intro i n hk hn hi
    obtain ⟨n, rfl⟩ : ∃ k, n = k + 1 := ⟨n - 1, by omega⟩
    have hlt : i < nms.length := by rw [nms_len]; omega
    have hmem : nms[i] ∈ nms := List.getElem_mem hlt
    have hI := inv_lst (k := min i 256) (by omega)
    have hfd := find_lst (k := min i 256) (i := i) (by omega)
    rw [if_neg (by omega)] at hfd
    have hE := al_name (l := lst (min i 256)) hmem 97 (.inl rfl)
    rw [hfd, lst_len (by omega)] at hE
    have step : ∀ want : Int, want = alE (lst (min i 256)) ann nms[i] [[97]] ⟨0, 9⟩ → law35_DelegateLimits_B2 (law35_DelegateLimits_L1 n) (N : Int) ⟨some (lst (min i 256))⟩ 0 9 (i : Int) want = some true := by
      intro want hw
      unfold law35_DelegateLimits_B2 law35_DelegateLimits_B3
      rw [name_eq (by omega), Option.bind_some, allow_eq hI _ _ _ fits_ann (fits_name hmem) sm_c, Option.bind_some, hw, if_neg (by simp), w64n (show i < 9223372036854775807 by omega)]
      have hL : alL (lst (min i 256)) ann nms[i] [[97]] ⟨0, 9⟩ = lst (min (i + 1) 256) := by
        unfold alL
        by_cases h6 : 256 ≤ i
        · have hE' : alE (lst (min i 256)) ann nms[i] [[97]] ⟨0, 9⟩ = 3 := by rw [hE, if_pos ⟨rfl, by omega⟩]
          rw [hE', if_neg (by decide), show min (i + 1) 256 = min i 256 by omega]
        · have hE' : alE (lst (min i 256)) ann nms[i] [[97]] ⟨0, 9⟩ = 0 := by rw [hE, if_neg (by omega)]
          rw [hE', if_pos rfl, put_none hfd, show min (i + 1) 256 = i + 1 by omega, show min i 256 = i by omega, lst_succ (by omega)]; rfl
      rw [hL]
      exact ih (i + 1) n (by omega) (by omega) (by omega)
    unfold law35_DelegateLimits_L1
    rw [if_pos (by simp; omega)]
    by_cases h6 : 256 ≤ i
    · rw [if_pos (by simp; omega)]
      exact step 3 (by rw [hE, if_pos ⟨rfl, by omega⟩])
    · rw [if_neg (by simp; omega)]
      exact step 0 (by rw [hE, if_neg (by omega)])
theorem limits_true (n : Int) : law35_DelegateLimits n = some true := by
  unfold law35_DelegateLimits
  show (some (delegate_Delegations.mk (some []))).bind _ = _
  rw [Option.bind_some]
  obtain ⟨N, hN, e⟩ : ∃ N : Nat, N ≤ 300 ∧ gmax 0 (gmin n 300) = (N : Int) := by
    refine ⟨(gmax 0 (gmin n 300)).toNat, ?_, ?_⟩ <;> (unfold gmax gmin; split <;> split <;> omega)
  rw [e]
  have hF : N < fuel := by unfold fuel; omega
  exact limits_loop N hN N 0 fuel (by omega) hF (by omega)
end Go.KW.S
