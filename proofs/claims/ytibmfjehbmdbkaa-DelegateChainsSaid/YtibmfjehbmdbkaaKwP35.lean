/- Own work: a part of the proofs of this seat. -/
import Derived.Test.YtibmfjehbmdbkaaKwPlain
import Derived.Test.YtibmfjehbmdbkaaKwMapP
import Derived.Test.YtibmfjehbmdbkaaKwHS
import Derived.KernelRfl
import Derived.Lib.IndexMore
import Derived.Lib.CountLaws
import Derived.Laws.RangeString
import Derived.Laws.RangeAny
set_option linter.unusedVariables false
set_option linter.unusedSimpArgs false
namespace Go.KW.S
open Go Go.KW
/-! ### words -/
def isW (c : Int) : Bool := (((decide (c ≥ 65) && decide (c ≤ 90)) || (decide (c ≥ 97) && decide (c ≤ 122))) || (decide (c ≥ 48) && decide (c ≤ 57))) || c == 45 || c == 95 || c == 46 || c == 58
def word (s : Str) : Bool := s.all (fun u => isW u.toNat) && (decide (1 ≤ s.length) && decide (s.length ≤ 64))

theorem fold_Word_1_eq (c : Int) : fold_Word_1 c = some (isW c) := by
  simp only [fold_Word_1, fold_letter, fold_upper, fold_digit, isW, Option.bind_some]
  cases (decide (c ≥ 65) && decide (c ≤ 90)) <;> cases (decide (c ≥ 97) && decide (c ≤ 122)) <;> simp
theorem fold_made_eq (s : Str) (hs : fits s) : fold_made__Word_1 s = some (word s) := by
  have key : ∀ (r : Str) (i n : Nat), s.drop i = r → i ≤ s.length → r.length < n →
      fold_made__Word_1_L1 n s (s.length : Int) (i : Int) = some (r.all (fun u => isW u.toNat) && (decide (1 ≤ s.length) && decide (s.length ≤ 64))) := by
    intro r
    induction r with
    | nil =>
      intro i n hd hi hn
      obtain ⟨n, rfl⟩ : ∃ k, n = k + 1 := ⟨n - 1, by simp at hn; omega⟩
      have := drop_nil hd
      simp only [fold_made__Word_1_L1, show ¬ ((i : Int) < s.length) by omega, decide_false, Bool.false_eq_true, if_false, List.all_nil, Bool.true_and, Option.some.injEq]
      rw [Bool.eq_iff_iff]; cases s <;> simp <;> omega
    | cons u r ih =>
      intro i n hd hi hn
      obtain ⟨n, rfl⟩ : ∃ k, n = k + 1 := ⟨n - 1, by simp at hn; omega⟩
      obtain ⟨h1, h2, h3⟩ := drop_more hd
      have hlt := drop_lt hd
      have := hs; unfold fits at this
      simp only [fold_made__Word_1_L1, show ((i : Int) < s.length) by omega, decide_true, if_true, inb_n, h1, chk_true, byteAt_some h2, fold_Word_1_eq, Option.bind_some, w64n (show i < 9223372036854775807 by omega), List.all_cons]
      cases isW u.toNat with
      | false => simp
      | true => simpa using ih (i + 1) n h3 (by omega) (by simp at hn; omega)
  exact key s 0 fuel rfl (by omega) (fuel_pos hs)
theorem fold_Word_eq (s : Str) (hs : fits s) : fold_Word s = some (word s) := by
  simp [fold_Word, fold_made_eq s hs]

/-- an instant by Rule 6 -/
def lim (t : Int) : Int := gmin (gmax t 0) 1099511627776
theorem lim_range (t : Int) : 0 ≤ lim t ∧ lim t ≤ 1099511627776 := by unfold lim gmin gmax; split <;> split <;> omega
/-- two dots in a row -/
def dots : Str → Bool
  | a :: b :: r => (a == 46 && b == 46) || dots (b :: r)
  | _ => false
def valid (s : Str) : Bool := word s && !(s.head? == some 46) && !(s.getLast? == some 46) && !dots s
theorem contains_dots (s : Str) : Lib.contains s [46, 46] = dots s := by
  have key : ∀ s : Str, (decide (0 ≤ Lib.index s [46, 46]) = dots s) ∧ -1 ≤ Lib.index s [46, 46] := by
    intro s
    induction s with
    | nil => exact ⟨rfl, by decide⟩
    | cons a r ih =>
      obtain ⟨ih1, ih2⟩ := ih
      have hi : Lib.index (a :: r) [46, 46] = if ([46, 46] : Str).isPrefixOf (a :: r) then 0 else if Lib.index r [46, 46] == -1 then -1 else Lib.index r [46, 46] + 1 := by
        simp only [Lib.index]
      have hp : ([46, 46] : Str).isPrefixOf (a :: r) = (a == 46 && r.head? == some 46) := by
        cases r with
        | nil => simp [List.isPrefixOf]
        | cons b r => simp [List.isPrefixOf, Bool.beq_comm]
      have hd : dots (a :: r) = ((a == 46 && r.head? == some 46) || dots r) := by
        cases r with
        | nil => simp [dots]
        | cons b r => simp [dots]
      rw [hi, hp, hd, ← ih1]
      cases (a == 46 && r.head? == some 46) with
      | true => simp
      | false =>
        simp only [Bool.false_eq_true, if_false, Bool.false_or]
        by_cases h : Lib.index r [46, 46] = -1
        · rw [h]; simp
        · have h' : (Lib.index r [46, 46] == -1) = false := by simpa using h
          rw [h']
          simp only [Bool.false_eq_true, if_false]
          refine ⟨?_, by omega⟩
          rw [Bool.eq_iff_iff]; simp; omega
  exact (key s).1
theorem u8_eq (u : UInt8) (k : Nat) (hk : k < 256) : ((u.toNat : Int) == (k : Int)) = (u == UInt8.ofNat k) := by
  rw [Bool.eq_iff_iff, beq_iff_eq, beq_iff_eq]
  constructor
  · intro h
    have : u.toNat = k := by omega
    exact UInt8.toNat_inj.1 (by rw [this, UInt8.toNat_ofNat_of_lt' (by simpa using hk)])
  · rintro rfl
    rw [UInt8.toNat_ofNat_of_lt' (by simpa using hk)]
theorem u8_46 (u : UInt8) : ((u.toNat : Int) == 46) = (u == 46) := u8_eq u 46 (by decide)
theorem byteAt_first {s : Str} (h : 1 ≤ s.length) : (byteAt s 0 == 46) = (s.head? == some 46) := by
  cases s with
  | nil => simp at h
  | cons a r =>
    have : byteAt (a :: r) 0 = (a.toNat : Int) := by simp [byteAt]
    rw [this, u8_46]; simp
theorem byteAt_end {s : Str} (h : 1 ≤ s.length) : (byteAt s (((s.length - 1 : Nat) : Int)) == 46) = (s.getLast? == some 46) := by
  have h1 : s[s.length - 1]? = some s[s.length - 1] := List.getElem?_eq_getElem (by omega)
  rw [byteAt_some h1, u8_46, List.getLast?_eq_getElem?, h1]; simp
theorem word_len {s : Str} (h : word s = true) : 1 ≤ s.length ∧ s.length ≤ 64 := by
  simp only [word, Bool.and_eq_true, decide_eq_true_eq] at h; exact h.2
theorem word_fits {s : Str} (h : word s = true) : fits s := by have := word_len h; unfold fits; omega
theorem last_ix {s : Str} (h : 1 ≤ s.length ∧ s.length ≤ 64) : IntKind.i64.wrap ((s.length : Int) - 1) = ((s.length - 1 : Nat) : Int) := by
  rw [w64 (by omega) (by omega)]; omega
theorem inb_0 {n : Nat} (h : 1 ≤ n) : inb 0 n = true := by simp [inb] <;> omega
theorem scope_valid_eq (s : Str) (hs : fits s) : scope_valid s = some (valid s) := by
  unfold scope_valid valid
  rw [fold_Word_eq s hs, Option.bind_some]
  cases hw : word s with
  | false => simp
  | true =>
    have hl := word_len hw
    simp only [if_true, inb_0 hl.1, chk_true, Option.bind_some, bne, byteAt_first hl.1, last_ix hl, Bool.true_and]
    cases s.head? == some 46 with
    | true => simp
    | false =>
      have h2 : inb ((s.length - 1 : Nat) : Int) s.length = true := by rw [inb_n]; simp; omega
      simp only [Bool.not_false, if_true, h2, chk_true, byteAt_end hl.1, Option.bind_some, Bool.true_and]
      cases s.getLast? == some 46 with
      | true => simp
      | false =>
        have h3 : decide (s.length < 4294967281) = true := by simp; omega
        simp only [Bool.not_false, if_true, lib_Contains, h3, chk_true, Option.bind_some, contains_dots, Bool.true_and]
/-- where a string is first found -/
def ixOf (v : Str) : Nat → List Str → Int
  | _, [] => -1
  | i, x :: r => if v == x then i else ixOf v (i + 1) r
theorem slices_Index_eq (l : List Str) (v : Str) (hl : fits l) : slices_Index_string_string l v = some (ixOf v 0 l) := by
  have key : ∀ (r : List Str) (i n : Nat), l.drop i = r → i ≤ l.length → r.length < n →
      slices_Index_string_string_L1 n l v (l.length : Int) (i : Int) = some (ixOf v i r) := by
    intro r
    induction r with
    | nil =>
      intro i n hd hi hn
      obtain ⟨n, rfl⟩ : ∃ k, n = k + 1 := ⟨n - 1, by simp at hn; omega⟩
      have := drop_nil hd
      simp [slices_Index_string_string_L1, show ¬ ((i : Int) < l.length) by omega, ixOf]
    | cons x r ih =>
      intro i n hd hi hn
      obtain ⟨n, rfl⟩ : ∃ k, n = k + 1 := ⟨n - 1, by simp at hn; omega⟩
      obtain ⟨h1, h2, h3⟩ := drop_more hd
      have hlt := drop_lt hd
      have := hl; unfold fits at this
      simp only [slices_Index_string_string_L1, show ((i : Int) < l.length) by omega, decide_true, if_true, idx_n, h2, Option.bind_some, w64n (show i < 9223372036854775807 by omega), ih (i + 1) n h3 (by omega) (by simp at hn; omega), ixOf]
      cases v == x <;> simp
  exact key l 0 fuel rfl (by omega) (fuel_pos hl)
theorem ixOf_pos (v : Str) : ∀ (r : List Str) (i : Nat), decide (ixOf v i r ≥ 0) = r.contains v
  | [], _ => by simp [ixOf]
  | x :: r, i => by
    unfold ixOf
    rw [List.contains_cons]
    cases h : v == x with
    | true => simp
    | false => simpa using ixOf_pos v r (i + 1)
theorem slices_Contains_eq (l : List Str) (v : Str) (hl : fits l) : slices_Contains_string_string l v = some (l.contains v) := by
  simp only [slices_Contains_string_string, slices_Index_eq l v hl, Option.bind_some, ixOf_pos]
/-- the first error of a list of scopes, p being those before -/
def ckL : List Str → List Str → Int
  | _, [] => 0
  | p, x :: r => if !valid x then 5 else if p.contains x then 7 else ckL (p ++ [x]) r
def ck (l : List Str) : Int := if decide ((l.length : Int) > 16) then 3 else ckL [] l
/-- each string can be held -/
def fitsAll (l : List Str) : Prop := ∀ s ∈ l, fits s
theorem fitsAll_at {l : List Str} (h : fitsAll l) {i : Nat} {x : Str} (hx : l[i]? = some x) : fits x := h x (List.mem_of_getElem? hx)
theorem take_len {T : Type} {l : List T} {i : Nat} (h : i < l.length) : (l.take i).length = i := by simp; omega
theorem scope_Check_eq (l : List Str) (hl : fitsAll l) : scope_Check l = some (ck l) := by
  unfold scope_Check ck
  by_cases h16 : (l.length : Int) > 16
  · simp [h16]
  · simp only [h16, decide_false, Bool.false_eq_true, if_false]
    have key : ∀ (r : List Str) (i n : Nat), l.drop i = r → i ≤ l.length → r.length < n → scope_Check_L1 n l l (l.length : Int) (i : Int) = some (ckL (l.take i) r) := by
      intro r
      induction r with
      | nil =>
        intro i n hd hi hn
        obtain ⟨n, rfl⟩ : ∃ k, n = k + 1 := ⟨n - 1, by simp at hn; omega⟩
        have := drop_nil hd
        simp [scope_Check_L1, show ¬ ((i : Int) < l.length) by omega, ckL]
      | cons x r ih =>
        intro i n hd hi hn
        obtain ⟨n, rfl⟩ : ∃ k, n = k + 1 := ⟨n - 1, by simp at hn; omega⟩
        obtain ⟨h1, h2, h3⟩ := drop_more hd
        have hlt := drop_lt hd
        have hi' : inc 0 (i : Int) l.length = true := by rw [inc_0]; simp; omega
        have hft : fits (l.take i) := by unfold fits; rw [take_len hlt]; omega
        simp only [scope_Check_L1, show ((i : Int) < l.length) by omega, decide_true, if_true, idx_n, h2, Option.bind_some, scope_valid_eq x (fitsAll_at hl h2), hi', chk_true, cut_0, slices_Contains_eq _ _ hft, w64n (show i < 9223372036854775807 by omega), ih (i + 1) n h3 (by omega) (by simp at hn; omega), ckL, take_more hd]
        cases valid x <;> cases (l.take i).contains x <;> simp
    exact key l 0 fuel rfl (by omega) (by unfold fuel; omega)
theorem ckL_ok {l : List Str} : ∀ p : List Str, ckL p l = 0 → ∀ s ∈ l, valid s = true := by
  induction l with
  | nil => intro p _ s hs; cases hs
  | cons x r ih =>
    intro p h s hs
    unfold ckL at h
    cases hv : valid x with
    | false => simp [hv] at h
    | true =>
      simp only [hv, Bool.not_true, Bool.false_eq_true, if_false] at h
      split at h
      · cases h
      · rcases List.mem_cons.1 hs with rfl | hs
        · exact hv
        · exact ih _ h s hs
theorem valid_word {s : Str} (h : valid s = true) : word s = true := by simp only [valid, Bool.and_eq_true] at h; exact h.1.1.1
theorem ck_ok {l : List Str} (h : ck l = 0) : l.length ≤ 16 ∧ ckL [] l = 0 := by
  unfold ck at h
  by_cases h16 : (l.length : Int) > 16
  · simp [h16] at h
  · simp only [h16, decide_false, Bool.false_eq_true, if_false] at h
    exact ⟨by omega, h⟩
/-! ### one scope within another -/
def pre (a b : Str) : Bool := decide (b.length > a.length) && (b.take (a.length + 1) == a ++ [46])
def imp (a b : Str) : Bool := (valid a && valid b) && (a == b || pre a b)
theorem valid_len {s : Str} (h : valid s = true) : 1 ≤ s.length ∧ s.length ≤ 64 := word_len (valid_word h)
theorem pre_prefix (a b : Str) (hl : a.length ≤ 64) (hb : b.length ≤ 64) : strings_HasPrefix b (a ++ [46]) = some (pre a b) := by
  have e : (a ++ [46]).length = a.length + 1 := by simp
  unfold strings_HasPrefix internal_stringslite_HasPrefix pre
  rw [e]
  by_cases h : b.length > a.length
  · have h1 : inc 0 ((a.length + 1 : Nat) : Int) b.length = true := by rw [inc_0]; simp; omega
    simp only [show ((b.length : Int) ≥ ((a.length + 1 : Nat) : Int)) by omega, decide_true, if_true, h1, chk_true, cut_0, Option.bind_some, h, Bool.true_and]
  · have h0 : decide ((b.length : Int) ≥ ((a.length + 1 : Nat) : Int)) = false := by simp; omega
    simp only [h0, Bool.false_eq_true, if_false, Option.bind_some, h, decide_false, Bool.false_and]
theorem scope_Implies_eq (a b : Str) (ha : fits a) (hb : fits b) : scope_Implies a b = some (imp a b) := by
  unfold scope_Implies imp
  rw [scope_valid_eq a ha, scope_valid_eq b hb, Option.bind_some]
  cases va : valid a with
  | false => simp
  | true =>
    cases vb : valid b with
    | false => simp
    | true =>
      have la := valid_len va
      have lb := valid_len vb
      have hf : fitS a [46] = true := by simp [fitS]; omega
      simp only [if_true, Option.bind_some, Bool.true_and, hf, chk_true, pre_prefix a b la.2 lb.2]
      cases a == b <;> simp
def cov (l : List Str) (s : Str) : Bool := l.any fun t => imp t s
def within (a b : List Str) : Bool := a.all fun x => cov b x
/-- few enough strings that can be held -/
def sm (l : List Str) : Prop := l.length ≤ 1000 ∧ fitsAll l
theorem sm.at {l : List Str} (h : sm l) {i : Nat} {x : Str} (hx : l[i]? = some x) : fits x := fitsAll_at h.2 hx
theorem scope_covered_eq (s : Str) (l : List Str) (hs : fits s) (hl : sm l) : scope_covered s l = some (cov l s) := by
  have key : ∀ (r : List Str) (i n : Nat), l.drop i = r → i ≤ l.length → r.length < n → scope_covered_L1 n s l (l.length : Int) (i : Int) = some (r.any fun t => imp t s) := by
    have := hl.1
    intro r
    induction r with
    | nil =>
      intro i n hd hi hn
      obtain ⟨n, rfl⟩ : ∃ k, n = k + 1 := ⟨n - 1, by simp at hn; omega⟩
      have := drop_nil hd
      simp [scope_covered_L1, show ¬ ((i : Int) < l.length) by omega]
    | cons x r ih =>
      intro i n hd hi hn
      obtain ⟨n, rfl⟩ : ∃ k, n = k + 1 := ⟨n - 1, by simp at hn; omega⟩
      obtain ⟨h1, h2, h3⟩ := drop_more hd
      have hlt := drop_lt hd
      simp only [scope_covered_L1, show ((i : Int) < l.length) by omega, decide_true, if_true, idx_n, h2, Option.bind_some, scope_Implies_eq x s (hl.at h2) hs, w64n (show i < 9223372036854775807 by omega), ih (i + 1) n h3 (by omega) (by simp at hn; omega), List.any_cons]
      cases imp x s <;> simp
  exact key l 0 fuel rfl (by omega) (by have := hl.1; unfold fuel; omega)
theorem scope_Within_eq (a b : List Str) (ha : sm a) (hb : sm b) : scope_Within a b = some (within a b) := by
  have key : ∀ (r : List Str) (i n : Nat), a.drop i = r → i ≤ a.length → r.length < n → scope_Within_L1 n b a (a.length : Int) (i : Int) = some (r.all fun x => cov b x) := by
    have := ha.1
    intro r
    induction r with
    | nil =>
      intro i n hd hi hn
      obtain ⟨n, rfl⟩ : ∃ k, n = k + 1 := ⟨n - 1, by simp at hn; omega⟩
      have := drop_nil hd
      simp [scope_Within_L1, show ¬ ((i : Int) < a.length) by omega]
    | cons x r ih =>
      intro i n hd hi hn
      obtain ⟨n, rfl⟩ : ∃ k, n = k + 1 := ⟨n - 1, by simp at hn; omega⟩
      obtain ⟨h1, h2, h3⟩ := drop_more hd
      have hlt := drop_lt hd
      simp only [scope_Within_L1, show ((i : Int) < a.length) by omega, decide_true, if_true, idx_n, h2, Option.bind_some, scope_covered_eq x b (ha.at h2) hb, w64n (show i < 9223372036854775807 by omega), ih (i + 1) n h3 (by omega) (by simp at hn; omega), List.all_cons]
      cases cov b x <;> simp
  exact key a 0 fuel rfl (by omega) (by have := ha.1; unfold fuel; omega)
/-! ### the sorted form -/
theorem str_lt_iff {x y : Str} : x < y ↔ ¬ y ≤ x := by
  constructor
  · intro h h'; exact str_not_lt.2 h' h
  · intro h
    rcases Decidable.em (x < y) with h1 | h1
    · exact h1
    · exact absurd (str_not_lt.1 h1) h
theorem str_lt_irrefl (x : Str) : ¬ x < x := fun h => str_lt_iff.1 h (by rcases str_le_total x x with h | h <;> exact h)
theorem str_lt_le {x y : Str} (h : x < y) : x ≤ y := by
  rcases str_le_total x y with h1 | h1
  · exact h1
  · exact absurd h1 (str_lt_iff.1 h)
theorem str_lt_of {x y : Str} (h : x ≤ y) (hn : x ≠ y) : x < y := str_lt_iff.2 fun h' => hn (str_le_antisymm h h')
/-- strictly ascending -/
def asc (l : List Str) : Prop := l.Pairwise (· < ·)
theorem asc_unique : ∀ {a b : List Str}, asc a → asc b → (∀ x, x ∈ a ↔ x ∈ b) → a = b := by
  intro a b ha hb h
  have na : a.Nodup := ha.imp (fun {x y} (h : x < y) (e : x = y) => str_lt_irrefl x (by rw [← e] at h; exact h))
  have nb : b.Nodup := hb.imp (fun {x y} (h : x < y) (e : x = y) => str_lt_irrefl x (by rw [← e] at h; exact h))
  exact sorted_unique ((List.perm_ext_iff_of_nodup na nb).2 h) (ha.imp str_lt_le) (hb.imp str_lt_le)
theorem sortS_asc {l : List Str} (h : l.Nodup) : asc (sortS l) := by
  have h1 := sortS_sorted l
  have h2 : (sortS l).Nodup := (sortS_perm l).nodup_iff.2 h
  exact (h1.and h2).imp fun h => str_lt_of h.1 h.2

theorem put_set {K V : Type} [DecidableEq K] {key : K} {r x : V} : ∀ {l : List (K × V)} {k : Nat}, l[k]? = some (key, r) → (∀ q ∈ l.take k, q.1 ≠ key) → mputL key x l = l.set k (key, x)
  | [], k, h, _ => by simp at h
  | p :: l, 0, h, _ => by
    simp at h; subst h
    simp [mputL]
  | p :: l, k + 1, h, ht => by
    have hp := ht p (by simp)
    unfold mputL
    rw [if_neg (fun e => hp e.symm), put_set (k := k) (by simpa using h) (fun q hq => ht q (by simp [hq]))]
    rfl
theorem put_none {K V : Type} [DecidableEq K] {key : K} {x : V} : ∀ {l : List (K × V)}, mfind key l = none → mputL key x l = l ++ [(key, x)]
  | [], _ => rfl
  | p :: l, h => by
    unfold mfind at h
    split at h
    · cases h
    · rename_i e
      unfold mputL
      rw [if_neg e, put_none h]; rfl
/-! ### delegations -/
theorem awake35 : law35_awake = some true := by kernel_rfl
abbrev WL := List (delegate_way × delegate_delegation)
abbrev toOne (p : delegate_way × delegate_delegation) : ref35_one := ⟨p.1.from_, p.1.to_, p.2.scopes, p.2.window⟩
def vt (t : Int) : Bool := t == lim t
theorem clock_Valid_eq (t : Int) : clock_Valid t = some (vt t) := rfl
def ckW (w : api_Window) (t : Int) : Int := if w.From > w.Until then 2 else if lim t < w.From then 14 else if lim t ≥ w.Until then 13 else 0
theorem clock_Check_eq (w : api_Window) (t : Int) : clock_Check w t 0 = some (ckW w t) := by
  unfold clock_Check ckW
  have h := lim_range t
  have e1 : clock_limited t = some (lim t) := rfl
  have e2 : gmin (gmax 0 0) 600 = 0 := rfl
  rw [e1, Option.bind_some, e2, w64 (show -9223372036854775808 ≤ lim t + 0 by omega) (by omega), w64 (show -9223372036854775808 ≤ lim t - 0 by omega) (by omega), Int.add_zero, Int.sub_zero]
  by_cases a : w.From > w.Until
  · rw [if_pos (decide_eq_true a), if_pos a]
  rw [if_neg (by simpa using a), if_neg a]
  by_cases b : lim t < w.From
  · rw [if_pos (decide_eq_true b), if_pos b]
  rw [if_neg (by simpa using b), if_neg b]
  by_cases c : lim t ≥ w.Until
  · rw [if_pos (decide_eq_true c), if_pos c]
  rw [if_neg (by simpa using c), if_neg c]
/-- what a delegation holds -/
structure goodW (p : delegate_way × delegate_delegation) : Prop where
  frm : word p.1.from_ = true
  to : word p.1.to_ = true
  ne : p.1.from_ ≠ p.1.to_
  ck : ck p.2.scopes = 0
  some : p.2.scopes ≠ []
theorem goodW.sm {p : delegate_way × delegate_delegation} (h : goodW p) : sm p.2.scopes := by
  have h1 := ck_ok h.ck
  exact ⟨by omega, fun s hs => (word_fits (valid_word (ckL_ok [] h1.2 s hs)))⟩
theorem goodW.len {p : delegate_way × delegate_delegation} (h : goodW p) : p.2.scopes.length ≤ 16 := (ck_ok h.ck).1
structure Inv (l : WL) : Prop where
  nd : nodupK l
  len : l.length ≤ 256
  good : ∀ p ∈ l, goodW p
theorem inv_new : Inv [] := ⟨nodupK_nil, by simp, fun p h => by cases h⟩
theorem made_eq (l : WL) : delegate_Delegations_made ⟨some l⟩ = some true := rfl
def mayR (l : WL) (f t : Str) (sc : List Str) (now : Int) : Int :=
  match mfind ⟨f, t⟩ l with
  | none => 11
  | some d => if ckW d.window now ≠ 0 then ckW d.window now else if within sc d.scopes then 0 else 19
theorem Inv.at {l : WL} (h : Inv l) {k : delegate_way} {d : delegate_delegation} (hf : mfind k l = some d) : goodW (k, d) := h.good _ (mfind_mem hf)
theorem opt_cases {α : Type} (o : Option α) : o = none ∨ ∃ r, o = some r := by cases o <;> simp
theorem may_eq {l : WL} (h : Inv l) (f t : Str) {sc : List Str} (hs : sm sc) (now : Int) : delegate_Delegations_May ⟨some l⟩ f t sc now = some (mayR l f t sc now) := by
  unfold delegate_Delegations_May mayR mgetD mhas
  simp only [made_eq, Option.bind_some, Bool.not_true, Bool.false_eq_true, if_false, Option.getD_some]
  rcases opt_cases (mfind (⟨f, t⟩ : delegate_way) l) with hf | ⟨d, hf⟩
  · simp only [hf]; rfl
  · simp only [hf, Option.isSome_some, Bool.not_true, Bool.false_eq_true, if_false, Option.getD_some, clock_Check_eq, Option.bind_some, scope_Within_eq _ _ hs (h.at hf).sm]
    by_cases hc : ckW d.window now ≠ 0
    · rw [if_pos (by simpa using hc), if_pos hc]
    · rw [if_neg (by simpa using hc), if_neg hc]
      cases within sc d.scopes <;> rfl
/-- where a delegation lies -/
structure At (l : WL) (f t : Str) (k : Nat) (d : delegate_delegation) : Prop where
  get : l[k]? = some (⟨f, t⟩, d)
  pre : ∀ q ∈ l.take k, q.1 ≠ ⟨f, t⟩
theorem At.lt {l : WL} {f t : Str} {k : Nat} {d : delegate_delegation} (h : At l f t k d) : k < l.length := (List.getElem?_eq_some_iff.1 h.get).1
theorem At.put {l : WL} {f t : Str} {k : Nat} {d x : delegate_delegation} (h : At l f t k d) : setAt (l.map toOne) (k : Int) ⟨f, t, x.scopes, x.window⟩ = (mputL ⟨f, t⟩ x l).map toOne := by
  rw [put_set h.get h.pre, List.map_set]
  simp [setAt]
/-- Allow -/
def alE (l : WL) (f t : Str) (sc : List Str) (w : api_Window) : Int :=
  if (!word f || !word t) then 5 else if f = t then 28 else if ck sc ≠ 0 then ck sc else if sc = [] then 6 else if ((!vt w.From || !vt w.Until) || decide (w.From ≥ w.Until)) then 2
  else if (mfind (⟨f, t⟩ : delegate_way) l).isSome = false ∧ 256 ≤ l.length then 3 else 0
def alL (l : WL) (f t : Str) (sc : List Str) (w : api_Window) : WL := if alE l f t sc w = 0 then mputL ⟨f, t⟩ ⟨sc, w⟩ l else l
theorem mlen_some {K V : Type} (l : List (K × V)) : mlen (some l) = (l.length : Int) := by unfold mlen; simp
theorem or3 (a b : Bool) : (if (!a) = true then some true else some (!b)) = some (!a || !b) := by cases a <;> rfl
theorem allow_eq {l : WL} (h : Inv l) (f t : Str) {sc : List Str} (w : api_Window) (hf : fits f) (ht : fits t) (hs : sm sc) :
    delegate_Delegations_Allow ⟨some l⟩ f t sc w = some (alE l f t sc w, ⟨some (alL l f t sc w)⟩) := by
  unfold delegate_Delegations_Allow alL
  have hc : lib_Clone sc = some sc := by unfold lib_Clone; rw [chk_t (by have := hs.1; simp; omega)]
  simp only [made_eq, Option.bind_some, Bool.not_true, Bool.false_eq_true, if_false, fold_Word_eq f hf, fold_Word_eq t ht, or3, scope_Check_eq sc hs.2, clock_Valid_eq, hc]
  by_cases h1 : (!word f || !word t) = true
  · have hE : alE l f t sc w = 5 := by unfold alE; rw [if_pos h1]
    rw [if_pos h1, hE, if_neg (by decide)]
  rw [if_neg h1]
  by_cases h2 : f = t
  · have hE : alE l f t sc w = 28 := by unfold alE; rw [if_neg h1, if_pos h2]
    rw [if_pos (by simpa using h2), hE, if_neg (by decide)]
  rw [if_neg (by simpa using h2)]
  by_cases h3 : ck sc ≠ 0
  · have hE : alE l f t sc w = ck sc := by unfold alE; rw [if_neg h1, if_neg h2, if_pos h3]
    rw [if_pos (by simpa using h3), hE, if_neg h3]
  rw [if_neg (by simpa using h3)]
  by_cases h4 : sc = []
  · have hE : alE l f t sc w = 6 := by unfold alE; rw [if_neg h1, if_neg h2, if_neg h3, if_pos h4]
    rw [if_pos (by simp [h4]), hE, if_neg (by decide)]
  rw [if_neg (by simp [h4])]
  by_cases h5 : ((!vt w.From || !vt w.Until) || decide (w.From ≥ w.Until)) = true
  · have hE : alE l f t sc w = 2 := by unfold alE; rw [if_neg h1, if_neg h2, if_neg h3, if_neg h4, if_pos h5]
    rw [if_pos h5, hE, if_neg (by decide)]
  rw [if_neg h5]
  have hE : alE l f t sc w = if (mfind (⟨f, t⟩ : delegate_way) l).isSome = false ∧ 256 ≤ l.length then 3 else 0 := by unfold alE; rw [if_neg h1, if_neg h2, if_neg h3, if_neg h4, if_neg h5]
  rw [hE, mlen_some]
  unfold mhas
  simp only [Option.getD_some]
  by_cases h6 : (mfind (⟨f, t⟩ : delegate_way) l).isSome = false ∧ 256 ≤ l.length
  · rw [if_pos (by simp [h6.1]; omega), if_pos h6, if_neg (by decide)]
  · have : ¬ ((!(mfind (⟨f, t⟩ : delegate_way) l).isSome) && decide ((l.length : Int) ≥ 256)) = true := by
      intro e
      simp only [Bool.and_eq_true, Bool.not_eq_true', decide_eq_true_eq] at e
      exact h6 ⟨e.1, by omega⟩
    rw [if_neg this, if_neg h6, if_pos rfl]
    rfl
theorem alE_ok {l : WL} {f t : Str} {sc : List Str} {w : api_Window} (h : alE l f t sc w = 0) : goodW (⟨f, t⟩, ⟨sc, w⟩) ∧ w.From < w.Until ∧ ((mfind (⟨f, t⟩ : delegate_way) l).isSome = true ∨ l.length < 256) := by
  unfold alE at h
  by_cases h1 : (!word f || !word t) = true
  · rw [if_pos h1] at h; cases h
  rw [if_neg h1] at h
  by_cases h2 : f = t
  · rw [if_pos h2] at h; cases h
  rw [if_neg h2] at h
  by_cases h3 : ck sc ≠ 0
  · rw [if_pos h3] at h; exact absurd h h3
  rw [if_neg h3] at h
  by_cases h4 : sc = []
  · rw [if_pos h4] at h; cases h
  rw [if_neg h4] at h
  by_cases h5 : ((!vt w.From || !vt w.Until) || decide (w.From ≥ w.Until)) = true
  · rw [if_pos h5] at h; cases h
  rw [if_neg h5] at h
  simp only [Bool.or_eq_true, Bool.not_eq_true', not_or, Bool.not_eq_false] at h1
  simp only [Bool.or_eq_true, Bool.not_eq_true', not_or, Bool.not_eq_false, decide_eq_true_eq] at h5
  refine ⟨⟨h1.1, h1.2, h2, by simpa using h3, h4⟩, by omega, ?_⟩
  by_cases h6 : (mfind (⟨f, t⟩ : delegate_way) l).isSome = false ∧ 256 ≤ l.length
  · rw [if_pos h6] at h; cases h
  · cases hm : (mfind (⟨f, t⟩ : delegate_way) l).isSome with
    | true => exact .inl rfl
    | false => exact .inr (by simp only [hm, true_and] at h6; omega)
theorem inv_put {l : WL} (h : Inv l) {k : delegate_way} {x : delegate_delegation} (hk : (mfind k l).isSome = true ∨ l.length < 256) (hg : goodW (k, x)) : Inv (mputL k x l) := by
  refine ⟨nodupK_put h.nd, ?_, fun p hp => ?_⟩
  · rw [len_put]
    have := h.len
    rcases hk with hk | hk
    · rw [if_pos hk]; exact this
    · split <;> omega
  · rcases mem_put hp with rfl | hp
    · exact hg
    · exact h.good p hp
theorem inv_al {l : WL} (h : Inv l) (f t : Str) (sc : List Str) (w : api_Window) : Inv (alL l f t sc w) := by
  unfold alL
  split
  · rename_i e
    obtain ⟨a, _, b⟩ := alE_ok e
    exact inv_put h b a
  · exact h
theorem revoke_eq (l : WL) (f t : Str) : delegate_Delegations_Revoke ⟨some l⟩ f t = some ((mfind (⟨f, t⟩ : delegate_way) l).isSome, ⟨some (mdelL ⟨f, t⟩ l)⟩) := rfl
theorem inv_del {l : WL} (h : Inv l) (k : delegate_way) : Inv (mdelL k l) := by
  refine ⟨nodupK_del h.nd, ?_, fun p hp => h.good p (mem_del hp)⟩
  have := len_del (k := k) h.nd
  have := h.len
  omega
/-- Drop -/
def touches (u : Str) (p : delegate_way × delegate_delegation) : Bool := (p.1.from_ == u) || (p.1.to_ == u)
def others (u : Str) (l : WL) : WL := l.filter fun p => !touches u p
theorem del_mem {e : delegate_way × delegate_delegation} {l : WL} (hn : nodupK l) (he : e ∈ l) {p : delegate_way × delegate_delegation} : p ∈ mdelL e.1 l ↔ p ∈ l ∧ p.1 ≠ e.1 := by
  rw [del_filter hn, List.mem_filter]; simp
theorem dropf_loop (u : Str) (l0 : WL) (hn0 : nodupK l0) : ∀ (k : Nat) (l : WL) (done : List delegate_way) (n : Nat), (leftL l done).length = k → k < n → nodupK l → others u l = others u l0 → (∀ p ∈ l, p.1 ∈ done → touches u p = false) →
    maps_DeleteFunc_map_delegate_way_delegate_delegation_delegate_way_delegate_delegation__Delegations_Drop_1_L1 n (some l) u done = some (some (others u l0)) := by
  intro k
  induction k with
  | zero =>
    intro l done n hk hn hnd ho hd
    obtain ⟨n, rfl⟩ : ∃ k, n = k + 1 := ⟨n - 1, by omega⟩
    have e := List.eq_nil_of_length_eq_zero hk
    unfold maps_DeleteFunc_map_delegate_way_delegate_delegation_delegate_way_delegate_delegation__Delegations_Drop_1_L1
    rw [mleft_some, e]
    refine pickAny_of (fun _ => ?_) (fun e he => by cases he)
    rw [← ho]
    congr 2
    symm
    refine List.filter_eq_self.2 fun p hp => ?_
    have : p.1 ∈ done := by
      refine Classical.byContradiction fun hc => ?_
      have : p ∈ leftL l done := List.mem_filter.2 ⟨hp, by simpa using hc⟩
      rw [e] at this; cases this
    rw [hd p hp this]; rfl
  | succ k ih =>
    intro l done n hk hn hnd ho hd
    obtain ⟨n, rfl⟩ : ∃ k, n = k + 1 := ⟨n - 1, by omega⟩
    unfold maps_DeleteFunc_map_delegate_way_delegate_delegation_delegate_way_delegate_delegation__Delegations_Drop_1_L1
    rw [mleft_some]
    refine pickAny_of (fun e => by rw [e] at hk; cases hk) (fun e he => ?_)
    obtain ⟨he1, he2⟩ := leftL_mem he
    have hlen := leftL_len hnd he
    unfold delegate_Delegations_Drop_1 maps_DeleteFunc_map_delegate_way_delegate_delegation_delegate_way_delegate_delegation__Delegations_Drop_1_B2
    rw [Option.bind_some]
    have ht : (e.1.from_ == u || e.1.to_ == u) = touches u e := rfl
    rw [ht]
    cases hx : touches u e with
    | true =>
      rw [if_pos rfl]
      have hm : mdel (some l) e.1 = some (mdelL e.1 l) := rfl
      rw [hm]
      have e1 : leftL (mdelL e.1 l) (e.1 :: done) = leftL l (e.1 :: done) := by
        rw [del_filter hnd]
        unfold leftL
        rw [List.filter_filter]
        refine List.filter_congr fun p _ => ?_
        by_cases hp : p.1 = e.1 <;> simp [hp]
      refine ih _ _ n (by rw [e1]; omega) (by omega) (nodupK_del hnd) ?_ fun p hp hpd => ?_
      · rw [← ho, del_filter hnd]
        unfold others
        rw [List.filter_filter]
        refine List.filter_congr fun p hp => ?_
        by_cases hpe : p.1 = e.1
        · have : p = e := by
            have h1 := mfind_of_mem hnd (show (p.1, p.2) ∈ l from hp)
            have h2 := mfind_of_mem hnd (show (e.1, e.2) ∈ l from he1)
            rw [hpe, h2] at h1
            exact Prod.ext hpe (Option.some.inj h1).symm
          subst this; simp [hx]
        · simp [hpe]
      · obtain ⟨q1, q2⟩ := (del_mem hnd he1).1 hp
        refine hd p q1 ?_
        rcases List.mem_cons.1 hpd with h | h
        · exact absurd h q2
        · exact h
    | false =>
      rw [if_neg (by simp)]
      refine ih _ _ n (by omega) (by omega) hnd ho fun p hp hpd => ?_
      rcases List.mem_cons.1 hpd with h | h
      · have : p = e := by
          have h1 := mfind_of_mem hnd (show (p.1, p.2) ∈ l from hp)
          have h2 := mfind_of_mem hnd (show (e.1, e.2) ∈ l from he1)
          rw [h, h2] at h1
          exact Prod.ext h (Option.some.inj h1).symm
        subst this; exact hx
      · exact hd p hp h
theorem others_len (u : Str) (l : WL) : (others u l).length ≤ l.length := List.length_filter_le _ _
theorem drop_eq {l : WL} (h : Inv l) (u : Str) : delegate_Delegations_Drop ⟨some l⟩ u = some ((l.length : Int) - ((others u l).length : Int), ⟨some (others u l)⟩) := by
  have hl := h.len
  have ho := others_len u l
  unfold delegate_Delegations_Drop maps_DeleteFunc_map_delegate_way_delegate_delegation_delegate_way_delegate_delegation__Delegations_Drop_1
  have := dropf_loop u l h.nd l.length l [] fuel (by rw [leftL_nil]) (by unfold fuel; omega) h.nd rfl (fun p _ hp => by cases hp)
  rw [made_eq, Option.bind_some, if_neg (by simp)]
  simp only
  rw [this, Option.bind_some, mlen_some, mlen_some, w64 (by omega) (by omega)]
theorem inv_others {l : WL} (h : Inv l) (u : Str) : Inv (others u l) := ⟨nodupK_filter h.nd, by have := others_len u l; have := h.len; omega, fun p hp => h.good p (List.mem_filter.1 hp).1⟩
/-! ### chains and scopes -/
def dupL : List Str → List Str → Bool
  | _, [] => false
  | p, x :: r => p.contains x || dupL (p ++ [x]) r
theorem dupL_cons (p : List Str) (x : Str) (r : List Str) : dupL p (x :: r) = (p.contains x || dupL (p ++ [x]) r) := rfl
def chn (l : WL) (sc : List Str) (now : Int) : List Str → Int
  | x :: y :: r => if mayR l x y sc now ≠ 0 then mayR l x y sc now else chn l sc now (y :: r)
  | _ => 0
def chainR (l : WL) (us sc : List Str) (now : Int) : Int := if us.length > 5 then 3 else if dupL [] us then 28 else chn l sc now us
theorem drop_two {T : Type} {xs : List T} {i : Nat} {x y : T} (h1 : xs[i]? = some x) (h2 : xs[i + 1]? = some y) : xs.drop i = x :: y :: xs.drop (i + 2) := by
  obtain ⟨a1, a2⟩ := List.getElem?_eq_some_iff.1 h1
  obtain ⟨b1, b2⟩ := List.getElem?_eq_some_iff.1 h2
  rw [List.drop_eq_getElem_cons a1, List.drop_eq_getElem_cons b1, a2, b2]
theorem chn_short (l : WL) (sc : List Str) (now : Int) {xs : List Str} (h : xs.length ≤ 1) : chn l sc now xs = 0 := by
  match xs, h with
  | [], _ => rfl
  | [x], _ => rfl
theorem chain_two {l : WL} (h : Inv l) {us sc : List Str} (hs : sm sc) (hu : us.length ≤ 5) (now : Int) (r0 : delegate_Delegations → List Str → List Str → Int → List Str → Int → Int → Option Int) :
    ∀ (k i n : Nat), us.length - i = k → k < n → i ≤ us.length → delegate_Delegations_Chain_L2 r0 n ⟨some l⟩ us sc now ((i + 1 : Nat) : Int) = some (chn l sc now (us.drop i)) := by
  intro k
  induction k with
  | zero =>
    intro i n hk hn hi
    obtain ⟨n, rfl⟩ : ∃ k, n = k + 1 := ⟨n - 1, by omega⟩
    rw [chn_short _ _ _ (by simp; omega)]
    simp only [delegate_Delegations_Chain_L2, show ¬ (((i + 1 : Nat) : Int) < us.length) by omega, decide_false, Bool.false_eq_true, if_false]
  | succ k ih =>
    intro i n hk hn hi
    obtain ⟨n, rfl⟩ : ∃ k, n = k + 1 := ⟨n - 1, by omega⟩
    by_cases hlast : i + 1 < us.length
    · have h1 : us[i]? = some us[i] := List.getElem?_eq_getElem (by omega)
      have h2 : us[i + 1]? = some us[i + 1] := List.getElem?_eq_getElem hlast
      have ew : IntKind.i64.wrap (((i + 1 : Nat) : Int) - 1) = (i : Int) := by rw [w64 (by omega) (by omega)]; omega
      have ih' := ih (i + 1) n (by omega) (by omega) (by omega)
      rw [drop_two h1 h2, chn]
      rw [List.drop_eq_getElem_cons hlast] at ih'
      simp only [delegate_Delegations_Chain_L2, show (((i + 1 : Nat) : Int) < us.length) by omega, decide_true, if_true, ew, idx_n, h1, h2, Option.bind_some, may_eq h _ _ hs, w64n (show i + 1 < 9223372036854775807 by omega), ih']
      by_cases hm : mayR l us[i] us[i + 1] sc now ≠ 0
      · rw [if_pos (by simpa using hm), if_pos hm]
      · rw [if_neg (by simpa using hm), if_neg hm]
    · rw [chn_short _ _ _ (by simp; omega)]
      simp only [delegate_Delegations_Chain_L2, show ¬ (((i + 1 : Nat) : Int) < us.length) by omega, decide_false, Bool.false_eq_true, if_false]
theorem chain_eq {l : WL} (h : Inv l) (us : List Str) {sc : List Str} (hs : sm sc) (hf : fits us) (now : Int) : delegate_Delegations_Chain ⟨some l⟩ us sc now = some (chainR l us sc now) := by
  unfold delegate_Delegations_Chain chainR
  rw [made_eq, Option.bind_some, if_neg (by simp)]
  by_cases h5 : us.length > 5
  · rw [if_pos (by simp; omega), if_pos h5]
  rw [if_neg (by simp; omega), if_neg h5]
  have key : ∀ (r : List Str) (i n : Nat), us.drop i = r → i ≤ us.length → r.length < n →
      delegate_Delegations_Chain_L1 n ⟨some l⟩ us sc now us (us.length : Int) (i : Int) = some (if dupL (us.take i) r then 28 else chn l sc now us) := by
    intro r
    induction r with
    | nil =>
      intro i n hd hi hn
      obtain ⟨n, rfl⟩ : ∃ k, n = k + 1 := ⟨n - 1, by simp at hn; omega⟩
      have := drop_nil hd
      have e := chain_two h (us := us) hs (by omega) now (delegate_Delegations_Chain_L1 n) us.length 0 fuel rfl (by unfold fuel; omega) (by omega)
      have e' : delegate_Delegations_Chain_L2 (delegate_Delegations_Chain_L1 n) fuel ⟨some l⟩ us sc now 1 = _ := e
      simp only [delegate_Delegations_Chain_L1, show ¬ ((i : Int) < us.length) by omega, decide_false, Bool.false_eq_true, if_false, e', List.drop_zero]
      rw [show dupL (us.take i) [] = false from rfl, if_neg (by simp)]
    | cons x r ih =>
      intro i n hd hi hn
      obtain ⟨n, rfl⟩ : ∃ k, n = k + 1 := ⟨n - 1, by simp at hn; omega⟩
      obtain ⟨h1, h2, h3⟩ := drop_more hd
      have hlt := drop_lt hd
      have hft : fits (us.take i) := by unfold fits; rw [take_len hlt]; omega
      simp only [delegate_Delegations_Chain_L1, show ((i : Int) < us.length) by omega, decide_true, if_true, idx_n, h2, Option.bind_some, w64n (show i < 9223372036854775807 by omega)]
      rw [chk_t (by rw [inc_0]; simp; omega), cut_0, slices_Contains_eq _ _ hft, Option.bind_some, dupL_cons]
      by_cases hc : (us.take i).contains x = true
      · rw [if_pos hc, hc, Bool.true_or, if_pos rfl]
      · rw [if_neg hc, Bool.eq_false_iff.2 hc, Bool.false_or, ih (i + 1) n h3 (by omega) (by simp at hn; omega), take_more hd]
  have := key us 0 fuel rfl (by omega) (by unfold fuel; omega)
  rw [show ((0 : Nat) : Int) = 0 from rfl, List.take_zero] at this
  exact this
theorem may_some {l : WL} {f t : Str} {sc : List Str} {now : Int} (h : mayR l f t sc now = 0) : ∃ d, mfind ⟨f, t⟩ l = some d ∧ ckW d.window now = 0 ∧ within sc d.scopes = true := by
  unfold mayR at h
  rcases opt_cases (mfind (⟨f, t⟩ : delegate_way) l) with hf | ⟨d, hf⟩
  · rw [hf] at h; cases h
  · rw [hf] at h
    simp only at h
    by_cases hc : ckW d.window now ≠ 0
    · rw [if_pos hc] at h; exact absurd h hc
    · rw [if_neg hc] at h
      cases hw : within sc d.scopes with
      | true => exact ⟨d, hf, by simpa using hc, hw⟩
      | false => rw [hw] at h; cases h
/-! ### who is reached -/
def ed (l : WL) (s : Str) (now : Int) (p : delegate_way × delegate_delegation) : Bool := mayR l p.1.from_ p.1.to_ [s] now == 0
inductive Rch (l : WL) (s : Str) (now : Int) (to : Str) : Str → Prop
  | base : Rch l s now to to
  | step (p : delegate_way × delegate_delegation) : p ∈ l → Rch l s now to p.1.to_ → ed l s now p = true → Rch l s now to p.1.from_
/-- the sorted list of those that are reached -/
structure IsR (l : WL) (s : Str) (now : Int) (to : Str) (X : List Str) : Prop where
  asc : asc X
  mem : ∀ x, x ∈ X ↔ Rch l s now to x ∧ x ≠ to
theorem rch_all {l : WL} {s : Str} {now : Int} {to : Str} {K : List Str} (h0 : to ∈ K) (hc : ∀ p ∈ l, ed l s now p = true → p.1.to_ ∈ K → p.1.from_ ∈ K) {x : Str} (h : Rch l s now to x) : x ∈ K := by
  induction h with
  | base => exact h0
  | step p hp _ he ih => exact hc p hp he ih
theorem nodup_le : ∀ {A B : List Str}, A.Nodup → (∀ x ∈ A, x ∈ B) → A.length ≤ B.length
  | [], _, _, _ => by simp
  | a :: r, B, hn, h => by
    rw [List.nodup_cons] at hn
    have ha := h a (by simp)
    have := nodup_le (A := r) (B := B.erase a) hn.2 fun x hx => by
      have hne : x ≠ a := fun e => hn.1 (e ▸ hx)
      exact (List.mem_erase_of_ne hne).2 (h x (by simp [hx]))
    rw [List.length_erase_of_mem ha] at this
    have : 0 < B.length := List.length_pos_of_mem ha
    simp only [List.length_cons]; omega
theorem same_key {l : WL} (hn : nodupK l) {p e : delegate_way × delegate_delegation} (hp : p ∈ l) (he : e ∈ l) (h : p.1 = e.1) : p = e := by
  have h1 := mfind_of_mem hn (show (p.1, p.2) ∈ l from hp)
  have h2 := mfind_of_mem hn (show (e.1, e.2) ∈ l from he)
  rw [h, h2] at h1
  exact Prod.ext h (Option.some.inj h1).symm
abbrev SL := List (Str × Bool)
abbrev keys (m : SL) : List Str := m.map Prod.fst
theorem keys_put {m : SL} {f x : Str} : x ∈ keys (mputL f true m) ↔ x = f ∨ x ∈ keys m := by
  induction m with
  | nil => simp [mputL, keys]
  | cons p r ih =>
    unfold mputL
    by_cases e : f = p.1
    · rw [if_pos e]; simp only [keys, List.map_cons, List.mem_cons] at *; rw [← e]; constructor
      · rintro (h | h) <;> simp [h]
      · rintro (h | h | h) <;> simp [h]
    · rw [if_neg e]
      simp only [keys, List.map_cons, List.mem_cons] at *
      rw [ih]
      constructor
      · rintro (h | h | h) <;> simp [h]
      · rintro (h | h | h) <;> simp [h]
theorem find_keys {m : SL} {x : Str} : (mfind x m).isSome = true ↔ x ∈ keys m := by
  cases hf : mfind x m with
  | none =>
    rw [mfind_none] at hf
    simp only [Option.isSome_none, Bool.false_eq_true, false_iff, keys, List.mem_map, not_exists, not_and]
    exact fun p hp => hf p hp
  | some b => simp only [Option.isSome_some, true_iff, keys, List.mem_map]; exact ⟨_, mfind_mem hf, rfl⟩
/-- what the walk knows: c were taken off the queue q, m are seen -/
structure RI (l : WL) (s : Str) (now : Int) (to : Str) (m : SL) (q : List Str) (c : Nat) : Prop where
  nd : nodupK m
  val : ∀ p ∈ m, p.2 = true
  sub : ∀ x ∈ q, x ∈ keys m
  sound : ∀ x ∈ keys m, Rch l s now to x
  hto : to ∈ keys m
  from_ : ∀ x ∈ keys m, x = to ∨ x ∈ l.map (·.1.from_)
  cnt : c + q.length = m.length
theorem RI.len {l : WL} {s : Str} {now : Int} {to : Str} {m : SL} {q : List Str} {c : Nat} (h : RI l s now to m q c) : m.length ≤ l.length + 1 := by
  have := nodup_le (A := keys m) (B := to :: l.map (·.1.from_)) h.nd fun x hx => by rcases h.from_ x hx with e | e <;> simp [e]
  simpa [keys] using this
theorem seen_get {m : SL} (hv : ∀ p ∈ m, p.2 = true) (x : Str) : mgetD (some m) x false = decide (x ∈ keys m) := by
  unfold mgetD
  simp only [Option.getD_some]
  cases hf : mfind x m with
  | none =>
    have : x ∉ keys m := fun h => by rw [← find_keys, hf] at h; cases h
    simp [this]
  | some b =>
    have h1 := hv _ (mfind_mem hf)
    have : x ∈ keys m := by rw [← find_keys, hf]; rfl
    simp only at h1
    simp [this, h1]
theorem sm_one {s : Str} (hs : fits s) : sm [s] := ⟨by simp, fun x hx => by simp at hx; subst hx; exact hs⟩
theorem reach_two {l : WL} (h : Inv l) {s : Str} (hs : fits s) (now : Int) (to : Str) (X : List Str) (c : Nat) (r0 : delegate_Delegations → Str → Str → Int → GMap Str Bool → List Str → Option (List Str)) (x : Str)
    (hr0 : ∀ (m : SL) (q : List Str), RI l s now to m q (c + 1) → (∀ p ∈ l, ed l s now p = true → p.1.to_ ∈ keys m → p.1.to_ ∉ q → p.1.from_ ∈ keys m) → r0 ⟨some l⟩ to s now (some m) q = some X) :
    ∀ (k : Nat) (done : List delegate_way) (m : SL) (q : List Str) (n : Nat), (leftL l done).length = k → k < n → RI l s now to m (x :: q) c →
    (∀ p ∈ l, ed l s now p = true → p.1.to_ ∈ keys m → (p.1.to_ ∉ x :: q ∨ (p.1.to_ = x ∧ p.1 ∈ done)) → p.1.from_ ∈ keys m) →
    delegate_Delegations_Reach_L2 r0 n ⟨some l⟩ to s now (some m) (x :: q) done = some X := by
  have hl := h.len
  intro k
  induction k with
  | zero =>
    intro done m q n hk hn hi hc
    obtain ⟨n, rfl⟩ : ∃ k, n = k + 1 := ⟨n - 1, by omega⟩
    have e := List.eq_nil_of_length_eq_zero hk
    have hm := hi.len
    have hcnt := hi.cnt
    simp only [List.length_cons] at hcnt
    unfold delegate_Delegations_Reach_L2
    rw [mleft_some, e]
    refine pickAny_of (fun _ => ?_) (fun e he => by cases he)
    have hin : inc 1 ((x :: q).length : Nat) (x :: q).length = true := by
      have := inc_n (i := 1) (j := (x :: q).length) (n := (x :: q).length)
      rw [show (((1 : Nat) : Int)) = 1 from rfl] at this
      rw [this]; simp
    have hcut : cut (x :: q) 1 ((x :: q).length : Nat) = q := by
      have := cut_n (x :: q) 1 (x :: q).length
      rw [show (((1 : Nat) : Int)) = 1 from rfl] at this
      rw [this]; simp
    rw [chk_t hin, hcut]
    refine hr0 m q ⟨hi.nd, hi.val, fun y hy => hi.sub y (by simp [hy]), hi.sound, hi.hto, hi.from_, by omega⟩ fun p hp he ht hq => ?_
    refine hc p hp he ht ?_
    by_cases hx : p.1.to_ = x
    · refine .inr ⟨hx, Classical.byContradiction fun hnd => ?_⟩
      have : p ∈ leftL l done := List.mem_filter.2 ⟨hp, by simpa using hnd⟩
      rw [e] at this; cases this
    · exact .inl (by simp [hx, hq])
  | succ k ih =>
    intro done m q n hk hn hi hc
    obtain ⟨n, rfl⟩ : ∃ k, n = k + 1 := ⟨n - 1, by omega⟩
    have hm := hi.len
    have hcnt := hi.cnt
    simp only [List.length_cons] at hcnt
    unfold delegate_Delegations_Reach_L2
    rw [mleft_some]
    refine pickAny_of (fun e => by rw [e] at hk; cases hk) (fun e he => ?_)
    obtain ⟨he1, he2⟩ := leftL_mem he
    have hlen := leftL_len h.nd he
    have hix : idx (x :: q) 0 = some x := rfl
    have skip : (e.1.to_ ≠ x ∨ e.1.from_ ∈ keys m ∨ ed l s now e = false) → delegate_Delegations_Reach_L2 r0 n ⟨some l⟩ to s now (some m) (x :: q) (e.1 :: done) = some X := by
      intro hsk
      refine ih (e.1 :: done) m q n (by omega) (by omega) hi fun p hp hpe ht hq => ?_
      rcases hq with hq | ⟨hq1, hq2⟩
      · exact hc p hp hpe ht (.inl hq)
      · rcases List.mem_cons.1 hq2 with hq2 | hq2
        · have := same_key h.nd hp he1 hq2
          subst this
          rcases hsk with hsk | hsk | hsk
          · exact absurd hq1 hsk
          · exact hsk
          · rw [hpe] at hsk; cases hsk
        · exact hc p hp hpe ht (.inr ⟨hq1, hq2⟩)
    rw [hix, Option.bind_some]
    unfold delegate_Delegations_Reach_B3 delegate_Delegations_Reach_B4
    by_cases hx : e.1.to_ = x
    · rw [if_pos (by simpa using hx), Option.bind_some, seen_get hi.val]
      by_cases hf : e.1.from_ ∈ keys m
      · rw [if_neg (by simp [hf]), if_neg (by simp)]
        exact skip (.inr (.inl hf))
      · rw [if_pos (by simp [hf]), may_eq h _ _ (sm_one hs), Option.bind_some]
        cases hee : mayR l e.1.from_ e.1.to_ [s] now == 0 with
        | false =>
          rw [if_neg (by simp)]
          exact skip (.inr (.inr hee))
        | true =>
          rw [if_pos rfl, chk_t (show (some m : GMap Str Bool).isSome = true from rfl), chk_t (by simp [fitL]; omega)]
          have hput : mput (some m) e.1.from_ true = some (mputL e.1.from_ true m) := rfl
          rw [hput, List.cons_append]
          have hfn : (mfind e.1.from_ m).isSome = false := by
            cases hz : (mfind e.1.from_ m).isSome with
            | false => rfl
            | true => exact absurd (find_keys.1 hz) hf
          refine ih (e.1 :: done) _ _ n (by omega) (by omega) ⟨nodupK_put hi.nd, fun p hp => ?_, fun y hy => ?_, fun y hy => ?_, keys_put.2 (.inr hi.hto), fun y hy => ?_, ?_⟩ fun p hp hpe ht hq => ?_
          · rcases mem_put hp with rfl | hp
            · rfl
            · exact hi.val p hp
          · rw [keys_put]
            rcases List.mem_cons.1 hy with hy | hy
            · exact .inr (hi.sub y (by simp [hy]))
            · rcases List.mem_append.1 hy with hy | hy
              · exact .inr (hi.sub y (by simp [hy]))
              · simp at hy; exact .inl hy
          · rcases keys_put.1 hy with rfl | hy
            · exact .step e he1 (hi.sound _ (hx ▸ hi.sub x (by simp))) hee
            · exact hi.sound y hy
          · rcases keys_put.1 hy with rfl | hy
            · exact .inr (List.mem_map.2 ⟨e, he1, rfl⟩)
            · exact hi.from_ y hy
          · rw [len_put, hfn]; simp; omega
          · rw [keys_put]
            rcases hq with hq | ⟨hq1, hq2⟩
            · have hpf : p.1.to_ ≠ e.1.from_ := fun e' => hq (by simp [e'])
              rcases keys_put.1 ht with ht | ht
              · exact absurd ht hpf
              · exact .inr (hc p hp hpe ht (.inl fun hm' => hq (by
                  rcases List.mem_cons.1 hm' with hm' | hm'
                  · simp [hm']
                  · simp [hm'])))
            · rcases List.mem_cons.1 hq2 with hq2 | hq2
              · exact .inl (by rw [hq2])
              · have : p.1.to_ ∈ keys m := hq1 ▸ hi.sub x (by simp)
                exact .inr (hc p hp hpe this (.inr ⟨hq1, hq2⟩))
    · rw [if_neg (by simpa using hx), if_neg (by simp)]
      exact skip (.inl hx)
theorem keys_del {m : SL} (hn : nodupK m) (to x : Str) : x ∈ keys (mdelL to m) ↔ x ∈ keys m ∧ x ≠ to := by
  rw [del_filter hn]
  simp only [keys, List.mem_map, List.mem_filter, decide_eq_true_eq]
  constructor
  · rintro ⟨p, ⟨h1, h2⟩, rfl⟩; exact ⟨⟨p, h1, rfl⟩, h2⟩
  · rintro ⟨⟨p, h1, rfl⟩, h2⟩; exact ⟨p, ⟨h1, h2⟩, rfl⟩
theorem reach_one {l : WL} (h : Inv l) {s : Str} (hs : fits s) (now : Int) (to : Str) (X : List Str) (hX : IsR l s now to X) :
    ∀ (k c n : Nat) (m : SL) (q : List Str), l.length + 1 - c = k → k < n → RI l s now to m q c → (∀ p ∈ l, ed l s now p = true → p.1.to_ ∈ keys m → p.1.to_ ∉ q → p.1.from_ ∈ keys m) →
    delegate_Delegations_Reach_L1 n ⟨some l⟩ to s now (some m) q = some X := by
  have hl := h.len
  have fin : ∀ (m : SL) (c : Nat), RI l s now to m [] c → (∀ p ∈ l, ed l s now p = true → p.1.to_ ∈ keys m → p.1.to_ ∉ ([] : List Str) → p.1.from_ ∈ keys m) →
      (lib_SortedKeys (mdel (some m) to)).bind (fun y172 => some (y172)) = some X := by
    intro m c hi hc
    have hm := hi.len
    have hd : mdel (some m) to = some (mdelL to m) := rfl
    have hnd := nodupK_del (k := to) hi.nd
    have hlen : (mdelL to m).length ≤ m.length := by have := len_del (k := to) hi.nd; omega
    unfold lib_SortedKeys
    rw [hd, Option.getD_some, chk_t, Option.bind_some]
    · congr 1
      refine asc_unique (sortS_asc hnd) hX.asc fun x => ?_
      rw [(sortS_perm _).mem_iff, hX.mem]
      have := keys_del hi.nd to x
      rw [this]
      constructor
      · rintro ⟨h1, h2⟩; exact ⟨hi.sound x h1, h2⟩
      · rintro ⟨h1, h2⟩; exact ⟨rch_all hi.hto (fun p hp he ht => hc p hp he ht (by simp)) h1, h2⟩
    · rw [Bool.and_eq_true]
      refine ⟨by simp; omega, List.all_eq_true.2 fun p hp => ?_⟩
      have hk : p.1 ∈ keys (mdelL to m) := List.mem_map.2 ⟨p, hp, rfl⟩
      obtain ⟨k1, k2⟩ := (keys_del hi.nd to p.1).1 hk
      rcases hi.from_ _ k1 with e | e
      · exact absurd e k2
      · obtain ⟨w, hw, e⟩ := List.mem_map.1 e
        have := word_len (h.good w hw).frm
        have e : w.1.from_ = p.1 := e
        rw [← e]
        exact decide_eq_true (Nat.le_trans this.2 (by decide))
  intro k
  induction k with
  | zero =>
    intro c n m q hk hn hi hc
    obtain ⟨n, rfl⟩ : ∃ k, n = k + 1 := ⟨n - 1, by omega⟩
    have hm := hi.len
    have hcnt := hi.cnt
    have hq : q = [] := List.eq_nil_of_length_eq_zero (by omega)
    subst hq
    unfold delegate_Delegations_Reach_L1
    rw [if_neg (by simp)]
    exact fin m c hi hc
  | succ k ih =>
    intro c n m q hk hn hi hc
    obtain ⟨n, rfl⟩ : ∃ k, n = k + 1 := ⟨n - 1, by omega⟩
    unfold delegate_Delegations_Reach_L1
    cases q with
    | nil =>
      rw [if_neg (by simp)]
      exact fin m c hi hc
    | cons x q =>
      rw [if_pos (by simp)]
      refine reach_two h hs now to X c (delegate_Delegations_Reach_L1 n) x (fun m' q' hi' hc' => ih (c + 1) n m' q' (by omega) (by omega) hi' hc') l.length [] m q fuel (by rw [leftL_nil]) (by unfold fuel; omega) hi fun p hp he ht hq => ?_
      rcases hq with hq | ⟨_, hq⟩
      · exact hc p hp he ht hq
      · cases hq
theorem reach_eq {l : WL} (h : Inv l) {s : Str} (hs : fits s) (now : Int) (to : Str) {X : List Str} (hX : IsR l s now to X) : delegate_Delegations_Reach ⟨some l⟩ to s now = some X := by
  have hl := h.len
  unfold delegate_Delegations_Reach
  rw [made_eq, Option.bind_some, if_neg (by simp), chk_t (show (some [] : GMap Str Bool).isSome = true from rfl)]
  have hF : l.length + 1 < fuel := by unfold fuel; omega
  refine reach_one h hs now to X hX (l.length + 1) 0 fuel [(to, true)] [to] rfl hF ⟨by simp [nodupK], by simp, by simp [keys], fun x hx => ?_, by simp [keys], by simp [keys], rfl⟩ fun p hp he ht hq => ?_
  · simp [keys] at hx; subst hx; exact .base
  · simp [keys] at ht; simp [ht] at hq
def once : List Str → List Str
  | [] => []
  | x :: r => if x ∈ r then once r else x :: once r
theorem once_mem : ∀ {l : List Str} {x : Str}, x ∈ once l ↔ x ∈ l
  | [], x => Iff.rfl
  | y :: r, x => by
    unfold once
    split
    · rename_i h
      rw [once_mem, List.mem_cons]
      exact ⟨.inr, fun e => by rcases e with rfl | e; exact h; exact e⟩
    · rw [List.mem_cons, List.mem_cons, once_mem]
theorem once_nodup : ∀ l : List Str, (once l).Nodup
  | [] => List.nodup_nil
  | y :: r => by
    unfold once
    split
    · exact once_nodup r
    · rename_i h
      rw [List.nodup_cons, once_mem]
      exact ⟨h, once_nodup r⟩
theorem isR_exists (l : WL) (s : Str) (now : Int) (to : Str) : ∃ X, IsR l s now to X := by
  refine ⟨sortS ((once (l.map (·.1.from_))).filter fun x => @decide (Rch l s now to x ∧ x ≠ to) (Classical.propDecidable _)), sortS_asc (List.filter_sublist.nodup (once_nodup _)), fun x => ?_⟩
  rw [(sortS_perm _).mem_iff, List.mem_filter, once_mem]
  simp only [decide_eq_true_eq]
  constructor
  · exact fun h => h.2
  · intro h
    refine ⟨?_, h⟩
    cases h.1 with
    | base => exact absurd rfl h.2
    | step p hp _ _ => exact List.mem_map.2 ⟨p, hp, rfl⟩
structure RS (l : WL) (s : Str) (now : Int) (to : Str) (m : List Str) : Prop where
  nd : m.Nodup
  hd : ∃ r, m = to :: r
  sound : ∀ x ∈ m, Rch l s now to x
  from_ : ∀ x ∈ m, x = to ∨ x ∈ l.map (·.1.from_)
theorem RS.len {l : WL} {s : Str} {now : Int} {to : Str} {m : List Str} (h : RS l s now to m) : m.length ≤ l.length + 1 := by
  have := nodup_le (B := to :: l.map (·.1.from_)) h.nd fun x hx => by rcases h.from_ x hx with e | e <;> simp [e]
  simpa using this
theorem isR_len {l : WL} {s : Str} {now : Int} {to : Str} {X : List Str} (h : IsR l s now to X) : X.length ≤ l.length := by
  have hn : X.Nodup := h.asc.imp (fun {x y} (h : x < y) (e : x = y) => str_lt_irrefl x (by rw [← e] at h; exact h))
  have := nodup_le (B := l.map (·.1.from_)) hn fun x hx => by
    obtain ⟨h1, h2⟩ := (h.mem x).1 hx
    cases h1 with
    | base => exact absurd rfl h2
    | step p hp _ _ => exact List.mem_map.2 ⟨p, hp, rfl⟩
  simpa using this
/-! ### gates -/
def shortL (l : List Str) : Prop := l.length ≤ 20 ∧ ∀ s ∈ l, s.length ≤ 200
theorem shortL.sm {l : List Str} (h : shortL l) : sm l := ⟨by have := h.1; omega, fun s hs => by have := h.2 s hs; unfold fits; omega⟩
theorem few_gate (l : List Str) (hf : fits l) : law35_few l = some false ∨ (law35_few l = some true ∧ shortL l) := by
  unfold fits at hf
  have key : ∀ (k i n : Nat), 20 - i = k → k < n → i ≤ 20 → i ≤ l.length → (∀ s ∈ l.take i, s.length ≤ 200) → law35_few_L1 n l (i : Int) = some false ∨ (law35_few_L1 n l (i : Int) = some true ∧ shortL l) := by
    intro k
    induction k with
    | zero =>
      intro i n hk hn h20 hi ht
      obtain ⟨n, rfl⟩ : ∃ k, n = k + 1 := ⟨n - 1, by omega⟩
      have e : i = 20 := by omega
      subst e
      unfold law35_few_L1
      rw [if_neg (by simp)]
      by_cases h : l.length ≤ 20
      · rw [List.take_of_length_le h] at ht
        exact .inr ⟨by simp; omega, h, ht⟩
      · exact .inl (by simp; omega)
    | succ k ih =>
      intro i n hk hn h20 hi ht
      obtain ⟨n, rfl⟩ : ∃ k, n = k + 1 := ⟨n - 1, by omega⟩
      unfold law35_few_L1
      by_cases hlt : i < l.length
      · have h2 : l[i]? = some l[i] := List.getElem?_eq_getElem hlt
        rw [if_pos (by simp; omega), idx_n, h2, Option.bind_some]
        by_cases hx : l[i].length ≤ 200
        · rw [if_neg (by simp; omega), w64n (show i < 9223372036854775807 by omega)]
          refine ih (i + 1) n (by omega) (by omega) (by omega) (by omega) fun s hs => ?_
          rw [List.take_add_one, h2] at hs
          rcases List.mem_append.1 hs with hs | hs
          · exact ht s hs
          · simp at hs; subst hs; exact hx
        · rw [if_pos (by simp; omega)]; exact .inl rfl
      · rw [if_neg (by simp; omega)]
        rw [List.take_of_length_le (by omega)] at ht
        by_cases h : l.length ≤ 20
        · exact .inr ⟨by simp; omega, h, ht⟩
        · exact .inl (by simp; omega)
  exact key 20 0 fuel rfl (by unfold fuel; omega) (by omega) (by omega) (by simp)
structure smallO (o : law35_Op) : Prop where
  frm : o.From.length ≤ 200
  to : o.To.length ≤ 200
  sc : shortL o.Scopes
theorem smallO.ff {o : law35_Op} (h : smallO o) : fits o.From := by have := h.frm; unfold fits; omega
theorem smallO.ft {o : law35_Op} (h : smallO o) : fits o.To := by have := h.to; unfold fits; omega
theorem light_gate (l : List law35_Op) (hf : fits l) (ho : ∀ o ∈ l, fits o.Scopes) : law35_light l = some false ∨ (law35_light l = some true ∧ l.length ≤ 24 ∧ ∀ o ∈ l, smallO o) := by
  unfold fits at hf
  have key : ∀ (k i n : Nat), 24 - i = k → k < n → i ≤ 24 → i ≤ l.length → (∀ s ∈ l.take i, smallO s) → law35_light_L1 n l (i : Int) = some false ∨ (law35_light_L1 n l (i : Int) = some true ∧ l.length ≤ 24 ∧ ∀ o ∈ l, smallO o) := by
    intro k
    induction k with
    | zero =>
      intro i n hk hn h20 hi ht
      obtain ⟨n, rfl⟩ : ∃ k, n = k + 1 := ⟨n - 1, by omega⟩
      have e : i = 24 := by omega
      subst e
      unfold law35_light_L1
      rw [if_neg (by simp)]
      by_cases h : l.length ≤ 24
      · rw [List.take_of_length_le h] at ht
        exact .inr ⟨by simp; omega, h, ht⟩
      · exact .inl (by simp; omega)
    | succ k ih =>
      intro i n hk hn h20 hi ht
      obtain ⟨n, rfl⟩ : ∃ k, n = k + 1 := ⟨n - 1, by omega⟩
      unfold law35_light_L1
      by_cases hlt : i < l.length
      · have h2 : l[i]? = some l[i] := List.getElem?_eq_getElem hlt
        have hix : idx l (i : Int) = some l[i] := by rw [idx_n, h2]
        rw [if_pos (by simp; omega)]
        simp only [hix, Option.bind_some, w64n (show i < 9223372036854775807 by omega)]
        by_cases h3 : l[i].From.length > 200
        · rw [if_pos (by simp; omega), Option.bind_some, if_pos rfl, Option.bind_some, if_pos rfl]; exact .inl rfl
        rw [if_neg (by simp; omega), Option.bind_some]
        by_cases h4 : l[i].To.length > 200
        · rw [if_pos (by simp; omega), Option.bind_some, if_pos rfl]; exact .inl rfl
        rw [if_neg (by simp; omega)]
        rcases few_gate l[i].Scopes (ho _ (List.getElem_mem hlt)) with h5 | ⟨h5, h6⟩
        · rw [h5, Option.bind_some, Option.bind_some, if_pos (show (!false) = true from rfl)]; exact .inl rfl
        · rw [h5, Option.bind_some, Option.bind_some, if_neg (by simp)]
          refine ih (i + 1) n (by omega) (by omega) (by omega) (by omega) fun s hs => ?_
          rw [List.take_add_one, h2] at hs
          rcases List.mem_append.1 hs with hs | hs
          · exact ht s hs
          · simp at hs; subst hs; exact ⟨by omega, by omega, h6⟩
      · rw [if_neg (by simp; omega)]
        rw [List.take_of_length_le (by omega)] at ht
        by_cases h : l.length ≤ 24
        · exact .inr ⟨by simp; omega, h, ht⟩
        · exact .inl (by simp; omega)
  exact key 24 0 fuel rfl (by unfold fuel; omega) (by omega) (by omega) (by simp)
/-! ### one call -/
def doI (l : WL) (o : law35_Op) : Int :=
  if o.Call = 0 then alE l o.From o.To o.Scopes o.Window else if o.Call = 1 then (if (mfind (⟨o.From, o.To⟩ : delegate_way) l).isSome then 1 else 0)
  else if o.Call = 2 then (l.length : Int) - ((others o.From l).length : Int) else mayR l o.From o.To o.Scopes o.Now
def doL (l : WL) (o : law35_Op) : WL :=
  if o.Call = 0 then alL l o.From o.To o.Scopes o.Window else if o.Call = 1 then mdelL ⟨o.From, o.To⟩ l else if o.Call = 2 then others o.From l else l
theorem inv_do {l : WL} (h : Inv l) (o : law35_Op) : Inv (doL l o) := by
  unfold doL
  split
  · exact inv_al h _ _ _ _
  · split
    · exact inv_del h _
    · split
      · exact inv_others h _
      · exact h
theorem yes_eq (b : Bool) : law35_yes b = some (if b then 1 else 0) := by cases b <;> rfl
theorem do_eq {l : WL} (h : Inv l) {o : law35_Op} (ho : smallO o) : law35_do ⟨some l⟩ o = some (doI l o, ⟨some (doL l o)⟩) := by
  unfold law35_do doI doL
  by_cases k0 : o.Call = 0
  · rw [if_pos (by simpa using k0), if_pos k0, if_pos k0, allow_eq h _ _ _ ho.ff ho.ft ho.sc.sm, Option.bind_some]
  rw [if_neg (by simpa using k0), if_neg k0, if_neg k0]
  by_cases k1 : o.Call = 1
  · rw [if_pos (by simpa using k1), if_pos k1, if_pos k1, revoke_eq, Option.bind_some, yes_eq, Option.bind_some]
  rw [if_neg (by simpa using k1), if_neg k1, if_neg k1]
  by_cases k2 : o.Call = 2
  · rw [if_pos (by simpa using k2), if_pos k2, if_pos k2, drop_eq h, Option.bind_some]
  rw [if_neg (by simpa using k2), if_neg k2, if_neg k2, may_eq h _ _ ho.sc.sm, Option.bind_some]
theorem holds_eq (l : List Str) (s : Str) (hl : l.length ≤ 1000) : law35_holds l s = some (l.contains s) := by
  have key : ∀ (r : List Str) (i n : Nat), l.drop i = r → i ≤ l.length → r.length < n → law35_holds_L1 n l s (i : Int) = some (r.contains s) := by
    intro r
    induction r with
    | nil =>
      intro i n hd hi hn
      obtain ⟨n, rfl⟩ : ∃ k, n = k + 1 := ⟨n - 1, by simp at hn; omega⟩
      have := drop_nil hd
      simp only [law35_holds_L1, show ¬ ((i : Int) < l.length) by omega, decide_false, Bool.false_eq_true, if_false, List.contains_nil]
    | cons x r ih =>
      intro i n hd hi hn
      obtain ⟨n, rfl⟩ : ∃ k, n = k + 1 := ⟨n - 1, by simp at hn; omega⟩
      obtain ⟨h1, h2, h3⟩ := drop_more hd
      have hlt := drop_lt hd
      simp only [law35_holds_L1, show ((i : Int) < l.length) by omega, decide_true, if_true, idx_n, h2, Option.bind_some, w64n (show i < 9223372036854775807 by omega), ih (i + 1) n h3 (by omega) (by simp at hn; omega)]
      rw [List.contains_cons]
      by_cases hx : x = s
      · rw [if_pos (by simpa using hx), hx]; simp
      · have : (s == x) = false := by simpa using fun h => hx (Eq.symm h)
        rw [if_neg (by simpa using hx), this, Bool.false_or]
  exact key l 0 fuel rfl (by omega) (by unfold fuel; omega)
/-! ### chains -/
theorem dup_iff : ∀ {l p : List Str}, dupL p l = false ↔ l.Nodup ∧ ∀ x ∈ l, x ∉ p
  | [], p => by simp [dupL]
  | x :: r, p => by
    rw [dupL_cons, Bool.or_eq_false_iff, dup_iff, List.nodup_cons]
    have e : (p.contains x = false) ↔ x ∉ p := by
      rw [Bool.eq_false_iff, ne_eq, List.contains_iff_mem]
    rw [e]
    constructor
    · rintro ⟨h1, h2, h3⟩
      refine ⟨⟨fun hx => h3 x hx (by simp), h2⟩, fun y hy => ?_⟩
      rcases List.mem_cons.1 hy with rfl | hy
      · exact h1
      · exact fun hp => h3 y hy (by simp [hp])
    · rintro ⟨⟨h1, h2⟩, h3⟩
      refine ⟨h3 x (by simp), h2, fun y hy hp => ?_⟩
      rcases List.mem_append.1 hp with hp | hp
      · exact h3 y (by simp [hy]) hp
      · simp at hp; subst hp; exact h1 hy
theorem chn_iff (l : WL) (sc : List Str) (now : Int) : ∀ {us : List Str}, chn l sc now us = 0 ↔ ∀ (j : Nat) (x y : Str), us[j]? = some x → us[j + 1]? = some y → mayR l x y sc now = 0
  | [] => by simp [chn]
  | [a] => by simp [chn]
  | a :: b :: r => by
    have ih := chn_iff l sc now (us := b :: r)
    unfold chn
    constructor
    · intro h j x y h1 h2
      by_cases hm : mayR l a b sc now ≠ 0
      · rw [if_pos hm] at h; exact absurd h hm
      rw [if_neg hm] at h
      cases j with
      | zero =>
        simp at h1 h2; subst h1; subst h2
        simpa using hm
      | succ j => exact ih.1 h j x y (by simpa using h1) (by simpa using h2)
    · intro h
      have h0 := h 0 a b rfl rfl
      rw [if_neg (by simpa using h0)]
      exact ih.2 fun j x y h1 h2 => h (j + 1) x y (by simpa using h1) (by simpa using h2)
theorem chain_zero {l : WL} {us sc : List Str} {now : Int} : chainR l us sc now = 0 ↔ us.length ≤ 5 ∧ us.Nodup ∧ ∀ (j : Nat) (x y : Str), us[j]? = some x → us[j + 1]? = some y → mayR l x y sc now = 0 := by
  unfold chainR
  by_cases h5 : us.length > 5
  · rw [if_pos h5]; constructor
    · intro h; cases h
    · rintro ⟨h, _⟩; omega
  rw [if_neg h5]
  cases hd : dupL [] us with
  | true =>
    rw [if_pos rfl]
    constructor
    · intro h; cases h
    · rintro ⟨_, h, _⟩
      have := (dup_iff (l := us) (p := [])).2 ⟨h, fun _ _ => by simp⟩
      rw [hd] at this; cases this
  | false =>
    rw [if_neg (by simp), chn_iff]
    have := (dup_iff.1 hd).1
    exact ⟨fun h => ⟨by omega, this, h⟩, fun h => h.2.2⟩
theorem chain_part {l : WL} {us sc : List Str} {now : Int} (h : chainR l us sc now = 0) (i : Nat) : chainR l (us.drop i) sc now = 0 ∧ chainR l (us.take i) sc now = 0 := by
  obtain ⟨h1, h2, h3⟩ := chain_zero.1 h
  refine ⟨chain_zero.2 ⟨by simp; omega, (List.drop_sublist i us).nodup h2, fun j x y a b => ?_⟩, chain_zero.2 ⟨by simp; omega, (List.take_sublist i us).nodup h2, fun j x y a b => ?_⟩⟩
  · rw [List.getElem?_drop] at a b
    exact h3 (i + j) x y a (by rw [Nat.add_assoc]; exact b)
  · rw [List.getElem?_take] at a b
    split at a
    · split at b
      · exact h3 j x y a b
      · cases b
    · cases a
theorem chain_rch {l : WL} {us sc : List Str} {now : Int} (h : chainR l us sc now = 0) {s : Str} (hs : s ∈ sc) {to : Str} (hto : us[us.length - 1]? = some to) :
    ∀ (k j : Nat) (x : Str), us.length - 1 - j = k → us[j]? = some x → Rch l s now to x := by
  obtain ⟨h1, h2, h3⟩ := chain_zero.1 h
  intro k
  induction k with
  | zero =>
    intro j x hk hx
    have hj := (List.getElem?_eq_some_iff.1 hx).1
    have : j = us.length - 1 := by omega
    subst this
    rw [hto] at hx
    rw [← Option.some.inj hx]; exact .base
  | succ k ih =>
    intro j x hk hx
    have hj : j + 1 < us.length := by omega
    have hy : us[j + 1]? = some us[j + 1] := List.getElem?_eq_getElem hj
    have hm := h3 j x _ hx hy
    obtain ⟨d, f1, f2, f3⟩ := may_some hm
    have hc : cov d.scopes s = true := List.all_eq_true.1 f3 s hs
    refine .step (⟨x, us[j + 1]⟩, d) (mfind_mem f1) (ih (j + 1) _ (by omega) hy) ?_
    unfold ed mayR
    simp only [f1]
    rw [if_neg (by simpa using f2)]
    have : within [s] d.scopes = true := by simp [within, hc]
    rw [this]; rfl
theorem chains_three {l : WL} (hi : Inv l) {us sc : List Str} (hu : shortL us) (hsc : shortL sc) (now : Int) (h : chainR l us sc now = 0) (i : Nat) (hil : i < us.length) (r0 : List law35_Op → List Str → List Str → Int → delegate_Delegations → Int → Option Bool) (r1 : List Str → List Str → Int → delegate_Delegations → Int → Option Bool)
    (hr : r1 us sc now ⟨some l⟩ ((i + 1 : Nat) : Int) = some true) :
    ∀ (r : List Str) (k n : Nat), sc.drop k = r → r.length < n → law35_DelegateChains_L3 r0 r1 n us sc now ⟨some l⟩ (i : Int) (k : Int) = some true := by
  have hul := hu.1
  have hsl := hsc.1
  have hl := hi.len
  intro r
  induction r with
  | nil =>
    intro k n hd hn
    obtain ⟨n, rfl⟩ : ∃ k, n = k + 1 := ⟨n - 1, by simp at hn; omega⟩
    have := drop_nil hd
    unfold law35_DelegateChains_L3
    rw [if_neg (by simp; omega), w64n (show i < 9223372036854775807 by omega), hr]
  | cons s r ih =>
    intro k n hd hn
    obtain ⟨n, rfl⟩ : ∃ k, n = k + 1 := ⟨n - 1, by simp at hn; omega⟩
    obtain ⟨g1, g2, g3⟩ := drop_more hd
    have hlt := drop_lt hd
    unfold law35_DelegateChains_L3
    rw [w64n (show i < 9223372036854775807 by omega)]
    by_cases hlast : i + 1 < us.length
    · rw [if_pos (by simp; omega)]
      have hss : s ∈ sc := List.mem_of_getElem? g2
      have hx : us[i]? = some us[i] := List.getElem?_eq_getElem hil
      have hto : us[us.length - 1]? = some us[us.length - 1] := List.getElem?_eq_getElem (by omega)
      have ew : IntKind.i64.wrap ((us.length : Int) - 1) = ((us.length - 1 : Nat) : Int) := by rw [w64 (by omega) (by omega)]; omega
      obtain ⟨X, hX⟩ := isR_exists l s now us[us.length - 1]
      have hXl := isR_len hX
      have hne : us[i] ≠ us[us.length - 1] := fun e => by
        have := (List.getElem_inj (chain_zero.1 h).2.1).1 e
        omega
      have hmem : X.contains us[i] = true := List.contains_iff_mem.2 ((hX.mem _).2 ⟨chain_rch h hss hto _ i _ rfl hx, hne⟩)
      rw [ew, idx_n, hto, Option.bind_some, idx_n, g2, Option.bind_some, idx_n, hx, Option.bind_some, reach_eq hi (by have := hsc.2 s hss; unfold fits; omega) now _ hX, Option.bind_some, holds_eq X _ (by omega), Option.bind_some, hmem, if_neg (by simp), w64n (show k < 9223372036854775807 by omega)]
      exact ih (k + 1) n g3 (by simp at hn; omega)
    · rw [if_neg (by simp; omega), hr]
theorem chains_two {l : WL} (hi : Inv l) {us sc : List Str} (hu : shortL us) (hsc : shortL sc) (now : Int) (h : chainR l us sc now = 0) (r0 : List law35_Op → List Str → List Str → Int → delegate_Delegations → Int → Option Bool) :
    ∀ (r : List Str) (i n : Nat), us.drop i = r → r.length < n → law35_DelegateChains_L2 r0 n us sc now ⟨some l⟩ (i : Int) = some true := by
  have hul := hu.1
  have hsl := hsc.1
  intro r
  induction r with
  | nil =>
    intro i n hd hn
    obtain ⟨n, rfl⟩ : ∃ k, n = k + 1 := ⟨n - 1, by simp at hn; omega⟩
    have := drop_nil hd
    unfold law35_DelegateChains_L2
    rw [if_neg (by simp; omega), awake35]; rfl
  | cons x r ih =>
    intro i n hd hn
    obtain ⟨n, rfl⟩ : ∃ k, n = k + 1 := ⟨n - 1, by simp at hn; omega⟩
    obtain ⟨g1, g2, g3⟩ := drop_more hd
    have hlt := drop_lt hd
    obtain ⟨c1, c2⟩ := chain_part h i
    have hcut : cut us (i : Int) (us.length : Nat) = us.drop i := by rw [cut_n, List.take_of_length_le (by simp)]
    unfold law35_DelegateChains_L2
    rw [if_pos (by simp; omega), chk_t (by rw [inc_n]; simp; omega), hcut, chain_eq hi _ hsc.sm (by unfold fits; simp; omega), Option.bind_some, c1, if_neg (by simp), chk_t (by rw [inc_0]; simp; omega), cut_0, chain_eq hi _ hsc.sm (by unfold fits; simp; omega), Option.bind_some, c2, Option.bind_some, if_neg (by simp)]
    exact chains_three hi hu hsc now h i hlt r0 _ (ih (i + 1) n g3 (by simp at hn; omega)) sc 0 fuel rfl (by unfold fuel; omega)
theorem chains_one (ops : List law35_Op) (hf : ops.length ≤ 24) (ho : ∀ o ∈ ops, smallO o) {us sc : List Str} (hu : shortL us) (hsc : shortL sc) (now : Int) :
    ∀ (r : List law35_Op) (i n : Nat) (l : WL), ops.drop i = r → r.length < n → Inv l → law35_DelegateChains_L1 n ops us sc now ⟨some l⟩ (i : Int) = some true := by
  have hul := hu.1
  intro r
  induction r with
  | nil =>
    intro i n l hd hn hi
    obtain ⟨n, rfl⟩ : ∃ k, n = k + 1 := ⟨n - 1, by simp at hn; omega⟩
    have := drop_nil hd
    unfold law35_DelegateChains_L1
    rw [if_neg (by simp; omega), chain_eq hi us hsc.sm (by unfold fits; omega), Option.bind_some]
    by_cases hc : chainR l us sc now = 0
    · rw [if_neg (by simpa using hc)]
      exact chains_two hi hu hsc now hc _ us 0 fuel rfl (by unfold fuel; omega)
    · rw [if_pos (by simpa using hc), awake35]; rfl
  | cons o r ih =>
    intro i n l hd hn hi
    obtain ⟨n, rfl⟩ : ∃ k, n = k + 1 := ⟨n - 1, by simp at hn; omega⟩
    obtain ⟨g1, g2, g3⟩ := drop_more hd
    have hlt := drop_lt hd
    have hoo := ho o (List.mem_of_getElem? g2)
    have hix : idx ops (i : Int) = some o := by rw [idx_n, g2]
    unfold law35_DelegateChains_L1
    rw [if_pos (by simp; omega)]
    simp only [hix, Option.bind_some, do_eq hi hoo, w64n (show i < 9223372036854775807 by omega)]
    exact ih (i + 1) n (doL l o) g3 (by simp at hn; omega) (inv_do hi o)
theorem chains_true (ops : List law35_Op) (us sc : List Str) (now : Int) (hf : fits ops) (ho : ∀ o ∈ ops, fits o.Scopes) (hu : fits us) (hs : fits sc) : law35_DelegateChains ops us sc now = some true := by
  unfold law35_DelegateChains
  rcases light_gate ops hf ho with h | ⟨h, hm, hoo⟩
  · simp only [h, Option.bind_some, Bool.not_false, if_true, awake35]
  rw [h, Option.bind_some, if_neg (by simp)]
  rcases few_gate us hu with h1 | ⟨h1, hu'⟩
  · simp only [h1, Option.bind_some, Bool.not_false, if_true, awake35]
  rw [h1, Option.bind_some, Option.bind_some, if_neg (by simp)]
  rcases few_gate sc hs with h2 | ⟨h2, hs'⟩
  · simp only [h2, Option.bind_some, Bool.not_false, if_true, awake35]
  rw [h2, Option.bind_some, Option.bind_some, if_neg (by simp)]
  show (some (delegate_Delegations.mk (some []))).bind _ = _
  rw [Option.bind_some]
  exact chains_one ops hm hoo hu' hs' now ops 0 fuel [] rfl (by unfold fuel; omega) inv_new
def nd : List Str → Bool
  | [] => true
  | x :: r => !r.contains x && nd r
end Go.KW.S
