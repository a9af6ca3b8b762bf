/- Own work: a part of the proofs of this seat. -/
import Derived.Test.YtmdbnoopcdpomaaGreatDoorKwPlain
import Derived.Test.YtmdbnoopcdpomaaGreatDoorKwMapP
import Derived.Test.YtmdbnoopcdpomaaGreatDoorKwFS
import Derived.KernelRfl
import Derived.Lib.IndexMore
import Derived.Lib.CountLaws
import Derived.Laws.RangeString
import Derived.Laws.RangeAny
set_option linter.unusedVariables false
set_option linter.unusedSimpArgs false
namespace Go.KW.S
open Go Go.KW
/-! ### words -/
def isW (c : Int) : Bool := (((decide (c ≥ 65) && decide (c ≤ 90)) || (decide (c ≥ 97) && decide (c ≤ 122))) || (decide (c ≥ 48) && decide (c ≤ 57))) || c == 45 || c == 95 || c == 46 || c == 58
def word (s : Str) : Bool := s.all (fun u => isW u.toNat) && (decide (1 ≤ s.length) && decide (s.length ≤ 64))

theorem fold_Word_1_eq (c : Int) : fold_Word_1 c = some (isW c) := by
  simp only [fold_Word_1, fold_letter, fold_upper, fold_digit, isW, Option.bind_some]
  cases (decide (c ≥ 65) && decide (c ≤ 90)) <;> cases (decide (c ≥ 97) && decide (c ≤ 122)) <;> simp
theorem fold_made_eq (s : Str) (hs : fits s) : fold_made__Word_1 s = some (word s) := by
  have key : ∀ (r : Str) (i n : Nat), s.drop i = r → i ≤ s.length → r.length < n →
      fold_made__Word_1_L1 n s (s.length : Int) (i : Int) = some (r.all (fun u => isW u.toNat) && (decide (1 ≤ s.length) && decide (s.length ≤ 64))) := by
    intro r
    induction r with
    | nil =>
      intro i n hd hi hn
      obtain ⟨n, rfl⟩ : ∃ k, n = k + 1 := ⟨n - 1, by simp at hn; omega⟩
      have := drop_nil hd
      simp only [fold_made__Word_1_L1, show ¬ ((i : Int) < s.length) by omega, decide_false, Bool.false_eq_true, if_false, List.all_nil, Bool.true_and, Option.some.injEq]
      rw [Bool.eq_iff_iff]; cases s <;> simp <;> omega
    | cons u r ih =>
      intro i n hd hi hn
      obtain ⟨n, rfl⟩ : ∃ k, n = k + 1 := ⟨n - 1, by simp at hn; omega⟩
      obtain ⟨h1, h2, h3⟩ := drop_more hd
      have hlt := drop_lt hd
      have := hs; unfold fits at this
      simp only [fold_made__Word_1_L1, show ((i : Int) < s.length) by omega, decide_true, if_true, inb_n, h1, chk_true, byteAt_some h2, fold_Word_1_eq, Option.bind_some, w64n (show i < 9223372036854775807 by omega), List.all_cons]
      cases isW u.toNat with
      | false => simp
      | true => simpa using ih (i + 1) n h3 (by omega) (by simp at hn; omega)
  exact key s 0 fuel rfl (by omega) (fuel_pos hs)
theorem fold_Word_eq (s : Str) (hs : fits s) : fold_Word s = some (word s) := by
  simp [fold_Word, fold_made_eq s hs]

theorem ref01_Word_eq (s : Str) (hs : fits s) : ref01_Word s = some (word s) := by
  have key : ∀ (r : Str) (i n : Nat), s.drop i = r → i ≤ s.length → r.length < n →
      ref01_Word_L1 n s (i : Int) = some (r.all (fun u => isW u.toNat) && (decide (1 ≤ s.length) && decide (s.length ≤ 64))) := by
    intro r
    induction r with
    | nil =>
      intro i n hd hi hn
      obtain ⟨n, rfl⟩ : ∃ k, n = k + 1 := ⟨n - 1, by simp at hn; omega⟩
      have := drop_nil hd
      simp only [ref01_Word_L1, show ¬ ((i : Int) < s.length) by omega, decide_false, Bool.false_eq_true, if_false, List.all_nil, Bool.true_and, Option.some.injEq]
      rw [Bool.eq_iff_iff]; simp; omega
    | cons u r ih =>
      intro i n hd hi hn
      obtain ⟨n, rfl⟩ : ∃ k, n = k + 1 := ⟨n - 1, by simp at hn; omega⟩
      obtain ⟨h1, h2, h3⟩ := drop_more hd
      have hlt := drop_lt hd
      have := hs; unfold fits at this
      have ih' := ih (i + 1) n h3 (by omega) (by simp at hn; omega)
      have e : isW u.toNat = ((((((decide ((u.toNat : Int) ≥ 65) && decide ((u.toNat : Int) ≤ 90)) || (decide ((u.toNat : Int) ≥ 97) && decide ((u.toNat : Int) ≤ 122))) || (decide ((u.toNat : Int) ≥ 48) && decide ((u.toNat : Int) ≤ 57))) || (u.toNat : Int) == 45) || (u.toNat : Int) == 95) || (u.toNat : Int) == 46 || (u.toNat : Int) == 58) := by
        simp [isW, Bool.or_assoc]
      simp only [ref01_Word_L1, show ((i : Int) < s.length) by omega, decide_true, if_true, inb_n, h1, chk_true, byteAt_some h2, ref01_letter, ref01_digit, Option.bind_some, w64n (show i < 9223372036854775807 by omega), List.all_cons, ih', e, bne]
      generalize (r.all fun u => isW u.toNat) = q
      generalize (decide ((u.toNat : Int) ≥ 97) && decide ((u.toNat : Int) ≤ 122)) = a
      generalize (decide ((u.toNat : Int) ≥ 65) && decide ((u.toNat : Int) ≤ 90)) = b
      generalize (decide ((u.toNat : Int) ≥ 48) && decide ((u.toNat : Int) ≤ 57)) = c
      generalize ((u.toNat : Int) == 45) = d
      generalize ((u.toNat : Int) == 95) = e1
      generalize ((u.toNat : Int) == 46) = f
      generalize ((u.toNat : Int) == 58) = g
      cases a <;> cases b <;> cases c <;> cases d <;> cases e1 <;> cases f <;> cases g <;> simp
  exact key s 0 fuel rfl (by omega) (fuel_pos hs)
/-! ### values: printable strings -/
def prt (u : UInt8) : Bool := decide (32 ≤ u.toNat) && decide (u.toNat ≤ 126)
def clean (s : Str) : Bool := s.all prt && (decide (1 ≤ s.length) && decide (s.length ≤ 256)) && (!(s.head? == some 32) && !(s.getLast? == some 32))
theorem dw_len (p : UInt8 → Bool) (l : Str) : (l.dropWhile p).length ≤ l.length := (List.dropWhile_suffix p).length_le
theorem trimB_eq (s : Str) : ((Lib.trimB s 32 == s) = (!(s.head? == some 32) && !(s.getLast? == some 32))) ∨ s = [] := by
  cases s with
  | nil => exact .inr rfl
  | cons a r =>
    refine .inl ?_
    rw [Bool.eq_iff_iff]
    simp only [beq_iff_eq, Bool.and_eq_true, Bool.not_eq_true', beq_eq_false_iff_ne, ne_eq]
    have hr : ∀ l : Str, (Lib.trimRightB l 32).length ≤ l.length := fun l => by
      unfold Lib.trimRightB
      rw [List.length_reverse]
      exact Nat.le_trans (dw_len _ _) (by simp)
    have hl : ∀ l : Str, (Lib.trimLeftB l 32).length ≤ l.length := fun l => dw_len _ _
    constructor
    · intro h
      have h1 : (Lib.trimRightB (a :: r) 32).length = (a :: r).length := by
        have e := congrArg List.length h
        unfold Lib.trimB at e
        have := hr (a :: r); have := hl (Lib.trimRightB (a :: r) 32)
        omega
      have h2 : Lib.trimRightB (a :: r) 32 = a :: r := by
        unfold Lib.trimRightB at h1 ⊢
        rw [List.length_reverse] at h1
        have hs := List.dropWhile_suffix (fun x : UInt8 => x == 32) (l := (a :: r).reverse)
        have := hs.eq_of_length (by rw [h1]; simp)
        rw [this, List.reverse_reverse]
      unfold Lib.trimB at h
      rw [h2] at h
      refine ⟨fun e => ?_, fun e => ?_⟩
      · simp at e
        subst e
        unfold Lib.trimLeftB at h
        have e2 := congrArg List.length h
        simp only [List.dropWhile_cons, beq_self_eq_true, if_true] at e2
        have := dw_len (fun x : UInt8 => x == 32) r
        simp at e2; omega
      · unfold Lib.trimRightB at h2
        have e3 : (a :: r).reverse.dropWhile (fun x => x == 32) = (a :: r).reverse := by rw [← List.reverse_reverse ((a :: r).reverse.dropWhile fun x => x == 32), h2]
        rw [List.getLast?_eq_head?_reverse] at e
        cases hrv : (a :: r).reverse with
        | nil => simp at hrv
        | cons b q =>
          rw [hrv] at e e3
          simp at e
          subst e
          have e2 := congrArg List.length e3
          simp only [List.dropWhile_cons, beq_self_eq_true, if_true] at e2
          have := dw_len (fun x : UInt8 => x == 32) q
          simp at e2; omega
    · rintro ⟨h1, h2⟩
      have e1 : Lib.trimRightB (a :: r) 32 = a :: r := by
        unfold Lib.trimRightB
        rw [List.getLast?_eq_head?_reverse] at h2
        cases hrv : (a :: r).reverse with
        | nil => simp at hrv
        | cons b q =>
          rw [hrv] at h2
          have hb : (b == 32) = false := by simpa using h2
          rw [List.dropWhile_cons, hb]
          simp only [Bool.false_eq_true, if_false]
          rw [← hrv, List.reverse_reverse]
      unfold Lib.trimB
      rw [e1]
      have ha : (a == 32) = false := by simpa using h1
      simp [Lib.trimLeftB, List.dropWhile_cons, ha]
theorem sdec_low {s : Str} {p : Nat} {u : UInt8} (h : s[p]? = some u) (hu : u.toNat < 128) : sdec s p = ((u.toNat : Int), 1) := by
  obtain ⟨h1, h2⟩ := List.getElem?_eq_some_iff.1 h
  have hs : p < (⟨s.toArray⟩ : ByteArray).size := by rw [str_size]; exact h1
  have hget : (⟨s.toArray⟩ : ByteArray)[p]'hs = u := by rw [← h2]; rfl
  have := decode_ascii ⟨s.toArray⟩ p hs (by rw [hget]; exact hu)
  unfold sdec
  rw [this, hget]
theorem sdec_high {s : Str} {p : Nat} {u : UInt8} (h : s[p]? = some u) (hu : 128 ≤ u.toNat) : 128 ≤ (sdec s p).1 := by
  obtain ⟨h1, h2⟩ := List.getElem?_eq_some_iff.1 h
  have hs : p < (⟨s.toArray⟩ : ByteArray).size := by rw [str_size]; exact h1
  have hget : (⟨s.toArray⟩ : ByteArray)[p]'hs = u := by rw [← h2]; rfl
  have := (decode_high ⟨s.toArray⟩ p hs (by rw [hget]; exact hu)).1
  unfold sdec
  show (128 : Int) ≤ (((Utf8.decode ⟨s.toArray⟩ p).1 : Nat) : Int)
  omega
theorem fold_Trim_eq (s : Str) (hs : fits s) : fold_Trim s = some (Lib.trimB s 32) := by
  unfold fits at hs
  simp [fold_Trim, lib_Trim, chk, show s.length ≤ 9223372036854775807 by omega]
theorem fold_Clean_eq (s : Str) (hs : fits s) : fold_Clean s = some (clean s) := by
  have fin : Option.bind (if (!(s == ([] : Str))) && (decide ((s.length : Int) ≤ 256)) then (fold_Trim s).bind fun y33 => some (y33 == s) else some false) (fun z28 => some z28) =
      some ((decide (1 ≤ s.length) && decide (s.length ≤ 256)) && (!(s.head? == some 32) && !(s.getLast? == some 32))) := by
    rw [fold_Trim_eq s hs]
    rcases trimB_eq s with h | h
    · simp only [Option.bind_some, h]
      cases s with
      | nil => simp
      | cons a r =>
        have e1 : (!(a :: r == ([] : Str))) = true := rfl
        have e2 : decide ((((a :: r).length : Nat) : Int) ≤ 256) = decide ((a :: r).length ≤ 256) := by rw [decide_eq_decide]; omega
        have e3 : decide (1 ≤ (a :: r).length) = true := by simp
        rw [e1, e2, e3]
        cases decide ((a :: r).length ≤ 256) <;> simp
    · subst h; simp
  have key : ∀ (r : Str) (i n : Nat), s.drop i = r → i ≤ s.length → r.length < n →
      fold_Clean_L1 n s s i = some (r.all prt && ((decide (1 ≤ s.length) && decide (s.length ≤ 256)) && (!(s.head? == some 32) && !(s.getLast? == some 32)))) := by
    intro r
    induction r with
    | nil =>
      intro i n hd hi hn
      obtain ⟨n, rfl⟩ : ∃ k, n = k + 1 := ⟨n - 1, by simp at hn; omega⟩
      have := drop_nil hd
      simp only [fold_Clean_L1, show ¬ (i < s.length) by omega, decide_false, Bool.false_eq_true, if_false, List.all_nil, Bool.true_and]
      exact fin
    | cons u r ih =>
      intro i n hd hi hn
      obtain ⟨n, rfl⟩ : ∃ k, n = k + 1 := ⟨n - 1, by simp at hn; omega⟩
      obtain ⟨h1, h2, h3⟩ := drop_more hd
      have hlt := drop_lt hd
      have hih := ih (i + 1) n h3 (by omega) (by simp at hn; omega)
      simp only [fold_Clean_L1, hlt, decide_true, if_true, List.all_cons]
      by_cases hu : u.toNat < 128
      · rw [sdec_low h2 hu]
        cases hp : prt u with
        | true =>
          simp only [prt, Bool.and_eq_true, decide_eq_true_eq] at hp
          have e1 : ¬ ((u.toNat : Int) < 32) := by omega
          have e2 : ¬ ((u.toNat : Int) > 126) := by omega
          simp only [e1, e2, decide_false, Bool.or_self, Bool.false_eq_true, if_false, Bool.true_and]
          exact hih
        | false =>
          have : (u.toNat : Int) < 32 ∨ (u.toNat : Int) > 126 := by
            simp only [prt, Bool.and_eq_false_iff, decide_eq_false_iff_not] at hp
            omega
          have e : (decide ((u.toNat : Int) < 32) || decide ((u.toNat : Int) > 126)) = true := by simpa using this
          simp only [e, if_true, Bool.false_and]
      · have hh := sdec_high h2 (by omega)
        have e : decide ((sdec s i).1 > 126) = true := by simp; omega
        have hp : prt u = false := by simp [prt]; omega
        simp only [e, Bool.or_true, if_true, hp, Bool.false_and]
  have := key s 0 fuel rfl (by omega) (fuel_pos hs)
  rw [fold_Clean, this]
  simp [clean, Bool.and_assoc]
theorem ref01_Clean_eq (s : Str) (hs : fits s) : ref01_Clean s = some (clean s) := by
  have key : ∀ (r : Str) (i n : Nat), s.drop i = r → i ≤ s.length → r.length < n → ref01_Clean_L1 n s (i : Int) = some (r.all prt) := by
    unfold fits at hs
    intro r
    induction r with
    | nil =>
      intro i n hd hi hn
      obtain ⟨n, rfl⟩ : ∃ k, n = k + 1 := ⟨n - 1, by simp at hn; omega⟩
      have := drop_nil hd
      simp [ref01_Clean_L1, show ¬ ((i : Int) < s.length) by omega]
    | cons u r ih =>
      intro i n hd hi hn
      obtain ⟨n, rfl⟩ : ∃ k, n = k + 1 := ⟨n - 1, by simp at hn; omega⟩
      obtain ⟨h1, h2, h3⟩ := drop_more hd
      have hlt := drop_lt hd
      simp only [ref01_Clean_L1, show ((i : Int) < s.length) by omega, decide_true, if_true, inb_n, h1, chk_true, byteAt_some h2, w64n (show i < 9223372036854775807 by omega), List.all_cons, ih (i + 1) n h3 (by omega) (by simp at hn; omega)]
      cases hp : prt u with
      | true =>
        simp only [prt, Bool.and_eq_true, decide_eq_true_eq] at hp
        simp [show ¬ ((u.toNat : Int) < 32) by omega, show ¬ ((u.toNat : Int) > 126) by omega, show ¬ (126 < (u.toNat : Int)) by omega]
      | false =>
        simp only [prt, Bool.and_eq_false_iff, decide_eq_false_iff_not] at hp
        by_cases h32 : (u.toNat : Int) < 32
        · simp [h32]
        · simp [h32, show (126 < (u.toNat : Int)) by omega]
  unfold ref01_Clean clean
  cases s with
  | nil => simp
  | cons a r =>
    have h1 := key (a :: r) 0 fuel rfl (by omega) (fuel_pos hs)
    by_cases hl : (a :: r).length ≤ 256
    · have e1 : (decide ((((a :: r).length : Nat) : Int) < 1) || decide ((((a :: r).length : Nat) : Int) > 256)) = false := by simp at hl ⊢; omega
      have e2 : inb 0 ((((a :: r).length : Nat)) : Int) = true := by simp only [inb, List.length_cons, Bool.and_eq_true, decide_eq_true_eq]; omega
      have e3 : IntKind.i64.wrap ((((a :: r).length : Nat) : Int) - 1) = ((((a :: r).length - 1 : Nat)) : Int) := by
        have := hl
        simp only [List.length_cons] at this ⊢
        rw [w64 (by omega) (by omega)]; omega
      have e4 : byteAt (a :: r) 0 = (a.toNat : Int) := by simp [byteAt]
      obtain ⟨z, hz⟩ : ∃ z, (a :: r).getLast? = some z := ⟨(a :: r).getLast (by simp), List.getLast?_eq_some_getLast (by simp)⟩
      have e5 : byteAt (a :: r) (((a :: r).length - 1 : Nat) : Int) = (z.toNat : Int) := by
        have : (a :: r)[(a :: r).length - 1]? = some z := by rw [← List.getLast?_eq_getElem?]; exact hz
        exact byteAt_some this
      have e6 : inb ((((a :: r).length - 1 : Nat)) : Int) (((a :: r).length : Nat) : Int) = true := by simp only [inb, List.length_cons, Bool.and_eq_true, decide_eq_true_eq]; omega
      have h32 : ∀ u : UInt8, ((u.toNat : Int) == 32) = (u == 32) := fun u => by
        rw [Bool.eq_iff_iff, beq_iff_eq, beq_iff_eq]
        constructor
        · intro h; exact UInt8.toNat_inj.1 (by have : u.toNat = 32 := by omega
                                               simpa using this)
        · intro h; subst h; rfl
      simp only [e1, Bool.false_eq_true, if_false, e2, chk_true, e4, e3, e6, e5, Option.bind_some, h32, hz, List.head?_cons, show decide (1 ≤ (a :: r).length) = true by simp, hl, decide_true, Bool.true_and, Bool.and_true]
      have q1 : (some a == some (32 : UInt8)) = (a == 32) := rfl
      have q2 : (some z == some (32 : UInt8)) = (z == 32) := rfl
      rw [q1, q2]
      cases a == 32 with
      | true => simp
      | false =>
        cases z == 32 with
        | true => simp
        | false => simpa using h1
    · have e1 : (decide ((((a :: r).length : Nat) : Int) < 1) || decide ((((a :: r).length : Nat) : Int) > 256)) = true := by simp at hl ⊢; omega
      simp only [e1, if_true, Option.bind_some, hl, decide_false, Bool.and_false, Bool.false_and]
theorem tmod16 (a : Nat) : Int.tmod (a : Int) 16 = ((a % 16 : Nat) : Int) := by rw [Int.tmod_eq_emod_of_nonneg (by omega)]; omega
theorem tdiv16 (a : Nat) : (a : Int).tdiv 16 = ((a / 16 : Nat) : Int) := by rw [Int.tdiv_eq_ediv_of_nonneg (by omega)]; omega
/-! ### digests, without the reference -/
theorem wrap_u64_range (x : Int) : 0 ≤ IntKind.u64.wrap x ∧ IntKind.u64.wrap x < 18446744073709551616 := by
  simp [IntKind.wrap, IntKind.bits, IntKind.signed]; omega
theorem bXor_range (a b : Int) : 0 ≤ bXor .u64 a b ∧ bXor .u64 a b < 18446744073709551616 := wrap_u64_range _
def sumL : Int → Str → Int
  | h, [] => h
  | h, u :: r => sumL (IntKind.u64.wrap ((bXor .u64 h (IntKind.u64.wrap (u.toNat : Int))) * 1099511628211)) r
def sumF (h : Int) : Int := bXor .u64 (IntKind.u64.wrap ((bXor .u64 (IntKind.u64.wrap ((bXor .u64 h (bShr .u64 h 33)) * 18397679294719823053)) (bShr .u64 (IntKind.u64.wrap ((bXor .u64 h (bShr .u64 h 33)) * 18397679294719823053)) 33)) * 14181476777654086739)) (bShr .u64 (IntKind.u64.wrap ((bXor .u64 (IntKind.u64.wrap ((bXor .u64 h (bShr .u64 h 33)) * 18397679294719823053)) (bShr .u64 (IntKind.u64.wrap ((bXor .u64 h (bShr .u64 h 33)) * 18397679294719823053)) 33)) * 14181476777654086739)) 33)
/-- the digest of a string -/
def sumS (s : Str) : Nat := (sumF (sumL 14695981039346656037 s)).toNat
theorem sumF_range (h : Int) : 0 ≤ sumF h ∧ sumF h < 18446744073709551616 := bXor_range _ _
theorem sumS_lt (s : Str) : sumS s < 18446744073709551616 := by have := sumF_range (sumL 14695981039346656037 s); unfold sumS; omega
theorem sumS_int (s : Str) : (sumS s : Int) = sumF (sumL 14695981039346656037 s) := Int.toNat_of_nonneg (sumF_range _).1
theorem dsum_loop (s : Str) (hs : fits s) : ∀ (r : Str) (i n : Nat) (h : Int), s.drop i = r → i ≤ s.length → r.length < n →
    digest_Sum_L1 n s h (s.length : Int) (i : Int) = some (sumF (sumL h r)) := by
  unfold fits at hs
  intro r
  induction r with
  | nil =>
    intro i n h hd hi hn
    obtain ⟨n, rfl⟩ : ∃ k, n = k + 1 := ⟨n - 1, by simp at hn; omega⟩
    have := drop_nil hd
    simp only [digest_Sum_L1, show ¬ ((i : Int) < s.length) by omega, decide_false, Bool.false_eq_true, if_false]
    rfl
  | cons u r ih =>
    intro i n h hd hi hn
    obtain ⟨n, rfl⟩ : ∃ k, n = k + 1 := ⟨n - 1, by simp at hn; omega⟩
    obtain ⟨h1, h2, h3⟩ := drop_more hd
    have hlt := drop_lt hd
    simp only [digest_Sum_L1, show ((i : Int) < s.length) by omega, decide_true, if_true, inb_n, h1, chk_true, w64n (show i < 9223372036854775807 by omega), byteAt_some h2, sumL]
    exact ih (i + 1) n _ h3 (by omega) (by simp at hn; omega)
theorem digest_Sum_eq (s : Str) (hs : fits s) : digest_Sum s = some (sumS s : Int) := by
  rw [sumS_int]; exact dsum_loop s hs s 0 fuel _ rfl (by omega) (fuel_pos hs)
theorem rsum_loop (s : Str) (hs : fits s) : ∀ (r : Str) (i n : Nat) (h : Int), s.drop i = r → i ≤ s.length → r.length < n →
    ref03_Sum_L1 n s h (i : Int) = some (sumF (sumL h r)) := by
  unfold fits at hs
  intro r
  induction r with
  | nil =>
    intro i n h hd hi hn
    obtain ⟨n, rfl⟩ : ∃ k, n = k + 1 := ⟨n - 1, by simp at hn; omega⟩
    have := drop_nil hd
    simp only [ref03_Sum_L1, show ¬ ((i : Int) < s.length) by omega, decide_false, Bool.false_eq_true, if_false]
    rfl
  | cons u r ih =>
    intro i n h hd hi hn
    obtain ⟨n, rfl⟩ : ∃ k, n = k + 1 := ⟨n - 1, by simp at hn; omega⟩
    obtain ⟨h1, h2, h3⟩ := drop_more hd
    have hlt := drop_lt hd
    simp only [ref03_Sum_L1, show ((i : Int) < s.length) by omega, decide_true, if_true, inb_n, h1, chk_true, w64n (show i < 9223372036854775807 by omega), byteAt_some h2, sumL]
    exact ih (i + 1) n _ h3 (by omega) (by simp at hn; omega)
theorem ref03_Sum_eq (s : Str) (hs : fits s) : ref03_Sum s = some (sumS s : Int) ∧ sumS s < 18446744073709551616 :=
  ⟨by rw [sumS_int]; exact rsum_loop s hs s 0 fuel _ rfl (by omega) (fuel_pos hs), sumS_lt s⟩
/-- a hexadecimal digit -/
def hexd (m : Nat) : UInt8 := if m < 10 then UInt8.ofNat (48 + m) else UInt8.ofNat (87 + m)
def hexL : Nat → Nat → Str
  | 0, _ => []
  | t + 1, m => hexd (m / 16 ^ t % 16) :: hexL t m
def hexS (m : Nat) : Str := hexL 16 m
theorem hexL_len : ∀ t m, (hexL t m).length = t
  | 0, _ => rfl
  | t + 1, m => by simp [hexL, hexL_len t m]
theorem hex_tab : ∀ j : Nat, j < 16 → tab_digest_digits[j]? = some ((hexd j).toNat : Int) := by decide
theorem hex_cut : ∀ j : Nat, j < 16 → (([48, 49, 50, 51, 52, 53, 54, 55, 56, 57, 97, 98, 99, 100, 101, 102] : Str).drop j).take 1 = [hexd j] := by decide
theorem bAnd15 (x : Nat) (hx : x < 18446744073709551616) : bAnd .u64 (x : Int) 15 = ((x % 16 : Nat) : Int) := by
  unfold bAnd
  have e1 : (BitVec.ofInt 64 (x : Int)) = BitVec.ofNat 64 x := by simp
  have e2 : (BitVec.ofInt 64 (15 : Int)) = BitVec.ofNat 64 15 := rfl
  show IntKind.u64.wrap (((BitVec.ofInt 64 (x : Int) &&& BitVec.ofInt 64 15).toNat : Nat) : Int) = _
  rw [e1, e2, BitVec.toNat_and, BitVec.toNat_ofNat, BitVec.toNat_ofNat, Nat.mod_eq_of_lt hx]
  have e3 : x &&& (15 % 2 ^ 64) = x % 16 := Nat.and_two_pow_sub_one_eq_mod x 4
  rw [e3, wu64 (by omega) (by have := Nat.mod_lt x (show 16 > 0 by omega); omega)]
theorem bShr4 (x t : Nat) (ht : t < 16) : bShr .u64 (x : Int) ((4 * t : Nat) : Int) = ((x / 16 ^ t : Nat) : Int) := by
  unfold bShr
  have e1 : min (((4 * t : Nat) : Int).toNat) (IntKind.u64.bits) = 4 * t := by simp [IntKind.bits]; omega
  rw [e1, Int.fdiv_eq_ediv_of_nonneg _ (Int.le_of_lt (Int.pow_pos (by omega)))]
  rw [show (2 : Int) ^ (4 * t) = ((16 ^ t : Nat) : Int) by rw [Int.pow_mul]; simp]
  simp
theorem Hex_loop (m : Nat) (hm : m < 18446744073709551616) : ∀ (k t n : Nat), t + k = 16 → k < n →
    digest_Hex_L1 n (m : Int) (List.replicate (16 - t) 0 ++ (hexL t m).map fun u => (u.toNat : Int)) (t : Int) = some (hexS m) := by
  intro k
  induction k with
  | zero =>
    intro t n ht hn
    obtain ⟨n, rfl⟩ : ∃ k, n = k + 1 := ⟨n - 1, by omega⟩
    have : t = 16 := by omega
    subst this
    have hb : bytesStr ((hexL 16 m).map fun u => (u.toNat : Int)) = hexL 16 m := by
      unfold bytesStr
      rw [List.map_map]
      exact List.map_id'' (fun u => by simp) _
    simp [digest_Hex_L1, hexL_len, chk, hb, hexS]
  | succ k ih =>
    intro t n ht hn
    obtain ⟨n, rfl⟩ : ∃ k, n = k + 1 := ⟨n - 1, by omega⟩
    have hx : m / 16 ^ t < 18446744073709551616 := Nat.lt_of_le_of_lt (Nat.div_le_self _ _) hm
    have e1 : IntKind.i64.wrap (4 * (t : Int)) = ((4 * t : Nat) : Int) := by rw [w64 (by omega) (by omega)]; omega
    have e2 : bAnd .u64 (bShr .u64 (m : Int) ((4 * t : Nat) : Int)) 15 = ((m / 16 ^ t % 16 : Nat) : Int) := by rw [bShr4 m t (by omega), bAnd15 _ hx]
    have h16 : m / 16 ^ t % 16 < 16 := Nat.mod_lt _ (by omega)
    have e3 : IntKind.i64.wrap (15 - (t : Int)) = ((15 - t : Nat) : Int) := by rw [w64 (by omega) (by omega)]; omega
    have hlen : (List.replicate (16 - t) (0 : Int) ++ (hexL t m).map fun u => (u.toNat : Int)).length = 16 := by simp [hexL_len]; omega
    have e4 : setAt (List.replicate (16 - t) (0 : Int) ++ (hexL t m).map fun u => (u.toNat : Int)) ((15 - t : Nat) : Int) ((hexd (m / 16 ^ t % 16)).toNat : Int) =
        List.replicate (16 - (t + 1)) (0 : Int) ++ (hexL (t + 1) m).map fun u => (u.toNat : Int) := by
      unfold setAt
      rw [Int.toNat_natCast, show 16 - t = (15 - t) + 1 by omega, List.replicate_succ', List.append_assoc, List.set_append_right _ _ (by simp)]
      simp [hexL, show 16 - (t + 1) = 15 - t by omega]
    have e5 : inb ((m / 16 ^ t % 16 : Nat) : Int) 16 = true := by rw [inb_iff]; omega
    have e6 : inb ((15 - t : Nat) : Int) 16 = true := by rw [inb_iff]; omega
    have e7 : inb ((15 - t : Nat) : Int) ((List.replicate (16 - t) (0 : Int) ++ (hexL t m).map fun u => (u.toNat : Int)).length : Nat) = true := by rw [hlen, inb_iff]; omega
    simp only [digest_Hex_L1, show ((t : Int) < 16) by omega, decide_true, if_true, e1, show (0 : Int) ≤ ((4 * t : Nat) : Int) by omega, chk_true, e2, e5, idx_n, hex_tab _ h16, Option.bind_some, e3, e6, e7, e4, w64n (show t < 9223372036854775807 by omega)]
    exact ih (t + 1) n (by omega) (by omega)
theorem digest_Hex_eq (m : Nat) (hm : m < 18446744073709551616) : digest_Hex (m : Int) = some (hexS m) := Hex_loop m hm 16 0 fuel rfl (by unfold fuel; omega)
theorem refHex_loop (m : Nat) (hm : m < 18446744073709551616) : ∀ (k t n : Nat), t + k = 16 → k < n → ref03_Hex_L1 n ((m / 16 ^ t : Nat) : Int) (hexL t m) (t : Int) = some (hexS m) := by
  intro k
  induction k with
  | zero =>
    intro t n ht hn
    obtain ⟨n, rfl⟩ : ∃ k, n = k + 1 := ⟨n - 1, by omega⟩
    have : t = 16 := by omega
    subst this
    simp [ref03_Hex_L1, hexS]
  | succ k ih =>
    intro t n ht hn
    obtain ⟨n, rfl⟩ : ∃ k, n = k + 1 := ⟨n - 1, by omega⟩
    have hx : m / 16 ^ t < 18446744073709551616 := Nat.lt_of_le_of_lt (Nat.div_le_self _ _) hm
    have h16 : m / 16 ^ t % 16 < 16 := Nat.mod_lt _ (by omega)
    have e1 : Int.tmod ((m / 16 ^ t : Nat) : Int) 16 = ((m / 16 ^ t % 16 : Nat) : Int) := tmod16 _
    have e2 : IntKind.u64.wrap (((m / 16 ^ t % 16 : Nat) : Int) + 1) = ((m / 16 ^ t % 16 + 1 : Nat) : Int) := by rw [wu64 (by omega) (by omega)]; omega
    have e3 : IntKind.u64.wrap (((m / 16 ^ t : Nat) : Int).tdiv 16) = ((m / 16 ^ (t + 1) : Nat) : Int) := by
      rw [tdiv16, wu64 (Int.natCast_nonneg _) (by have h := Nat.div_le_self (m / 16 ^ t) 16; generalize m / 16 ^ t / 16 = q at *; generalize m / 16 ^ t = p at *; omega), Nat.div_div_eq_div_mul, ← Nat.pow_succ]
    have e4 : inc ((m / 16 ^ t % 16 : Nat) : Int) ((m / 16 ^ t % 16 + 1 : Nat) : Int) (([48, 49, 50, 51, 52, 53, 54, 55, 56, 57, 97, 98, 99, 100, 101, 102] : List Nat).length : Nat) = true := by rw [inc_n]; simp; omega
    have e5 : fitS [hexd (m / 16 ^ t % 16)] (hexL t m) = true := by simp [fitS, hexL_len]; omega
    simp only [ref03_Hex_L1, show ((t : Int) < 16) by omega, decide_true, if_true, e1, e2, e4, chk_true, cut_n, Nat.add_sub_cancel_left, hex_cut _ h16, e5, e3, w64n (show t < 9223372036854775807 by omega)]
    exact ih (t + 1) n (by omega) (by omega)
theorem ref03_Hex_eq (m : Nat) (hm : m < 18446744073709551616) : ref03_Hex (m : Int) = some (hexS m) := by
  have := refHex_loop m hm 16 0 fuel rfl (by unfold fuel; omega)
  simpa [ref03_Hex, hexL] using this
/-- the hexadecimal digest -/
def textS (s : Str) : Str := hexS (sumS s)
theorem textS_len (s : Str) : (textS s).length = 16 := hexL_len _ _
theorem digest_Text_eq (s : Str) (hs : fits s) : digest_Text s = some (textS s) := by
  unfold textS digest_Text
  rw [digest_Sum_eq s hs, Option.bind_some, digest_Hex_eq (sumS s) (sumS_lt s), Option.bind_some]
theorem ref03_Text_eq (s : Str) (hs : fits s) : ref03_Text s = some (textS s) := by
  unfold textS ref03_Text
  rw [(ref03_Sum_eq s hs).1, Option.bind_some, ref03_Hex_eq (sumS s) (sumS_lt s), Option.bind_some]
/-! ### verifiers -/
def hexB (u : UInt8) : Bool := (decide (48 ≤ u.toNat) && decide (u.toNat ≤ 57)) || (decide (97 ≤ u.toNat) && decide (u.toNat ≤ 102))
def hc4 (b : Bool) : Int := if b then 0 else 4
def hexOK (s : Str) : Bool := decide (s.length = 16) && s.all hexB
def dvF : Nat → Nat → Int → Int → Int
  | 0, _, v, _ => v
  | k + 1, t, v, b => dvF k (t + 1) (if (tab_digest_digits[t]?).getD 0 == b then (t : Int) else v) b
theorem dvF_hex : ∀ b : Nat, b < 256 → decide (dvF 16 0 (-1) (b : Int) < 0) = !hexB (UInt8.ofNat b) := by decide +kernel
theorem dvF_hexU (u : UInt8) : decide (dvF 16 0 (-1) (u.toNat : Int) < 0) = !hexB u := by
  have := dvF_hex u.toNat u.toNat_lt
  rwa [UInt8.ofNat_toNat] at this
theorem ReadHex_L2_eq (r0 : Str → Int → Int → Int → Option (Int × Int)) (s : Str) (i : Nat) (u : UInt8) (hu : s[i]? = some u) (n4 t13 t14 : Int) : ∀ (k t n : Nat) (v : Int), t + k = 16 → k < n →
    digest_ReadHex_L2 r0 n s n4 (i : Int) v t13 t14 (t : Int) =
      if decide (dvF k t v (u.toNat : Int) < 0) then some (0, 4) else r0 s (bOr .u64 (bShl .u64 n4 4) (IntKind.u64.wrap (dvF k t v (u.toNat : Int)))) t13 (IntKind.i64.wrap (t14 + 1)) := by
  have hi := (List.getElem?_eq_some_iff.1 hu).1
  intro k
  induction k with
  | zero =>
    intro t n v ht hn
    obtain ⟨n, rfl⟩ : ∃ k, n = k + 1 := ⟨n - 1, by omega⟩
    simp only [digest_ReadHex_L2, show ¬ ((t : Int) < 16) by omega, decide_false, Bool.false_eq_true, if_false, dvF]
    rfl
  | succ k ih =>
    intro t n v ht hn
    obtain ⟨n, rfl⟩ : ∃ k, n = k + 1 := ⟨n - 1, by omega⟩
    have hlt : t < tab_digest_digits.length := by show t < 16; omega
    have hg : tab_digest_digits[t]? = some tab_digest_digits[t] := List.getElem?_eq_getElem hlt
    simp only [digest_ReadHex_L2, show ((t : Int) < 16) by omega, decide_true, if_true, idx_n, hg, Option.bind_some, inb_n, hi, chk_true, byteAt_some hu, digest_ReadHex_B3, w64n (show t < 9223372036854775807 by omega), dvF, Option.getD_some]
    split
    · exact ih (t + 1) n _ (by omega) (by omega)
    · exact ih (t + 1) n _ (by omega) (by omega)
theorem ReadHex_loop (s : Str) (hs : s.length = 16) : ∀ (r : Str) (i n : Nat) (n4 : Int), s.drop i = r → r.length < n →
    ∃ v, digest_ReadHex_L1 n s n4 (s.length : Int) (i : Int) = some (v, hc4 (r.all hexB)) := by
  intro r
  induction r with
  | nil =>
    intro i n n4 hd hn
    obtain ⟨n, rfl⟩ : ∃ k, n = k + 1 := ⟨n - 1, by simp at hn; omega⟩
    have := drop_nil hd
    exact ⟨n4, by simp only [digest_ReadHex_L1, show ¬ ((i : Int) < s.length) by omega, decide_false, Bool.false_eq_true, if_false]; rfl⟩
  | cons u r ih =>
    intro i n n4 hd hn
    obtain ⟨n, rfl⟩ : ∃ k, n = k + 1 := ⟨n - 1, by simp at hn; omega⟩
    obtain ⟨h1, h2, h3⟩ := drop_more hd
    have hlt := drop_lt hd
    simp only [digest_ReadHex_L1, show ((i : Int) < s.length) by omega, decide_true, if_true]
    have := ReadHex_L2_eq (digest_ReadHex_L1 n) s i u h2 n4 (s.length : Int) (i : Int) 16 0 fuel (-1) rfl (by unfold fuel; omega)
    rw [show ((0 : Nat) : Int) = 0 from rfl] at this
    rw [this, dvF_hexU, List.all_cons]
    cases hx : hexB u with
    | false => exact ⟨0, rfl⟩
    | true =>
      simp only [Bool.not_true, Bool.false_eq_true, if_false, w64n (show i < 9223372036854775807 by omega), Bool.true_and]
      exact ih (i + 1) n _ h3 (by simp at hn; omega)
theorem digest_ReadHex_eq (s : Str) : ∃ v, digest_ReadHex s = some (v, hc4 (hexOK s)) := by
  unfold digest_ReadHex hexOK
  by_cases h : s.length = 16
  · obtain ⟨v, hv⟩ := ReadHex_loop s h s 0 fuel 0 rfl (by rw [h]; unfold fuel; omega)
    refine ⟨v, ?_⟩
    have h16 : ((s.length : Int) != 16) = false := by simp [h]
    rw [h16, if_neg (by simp)]
    have hv' : digest_ReadHex_L1 fuel s 0 (s.length : Int) 0 = _ := hv
    rw [hv', h]; simp
  · have h16 : ((s.length : Int) != 16) = true := by simp; omega
    refine ⟨0, ?_⟩
    rw [h16, if_pos rfl]; simp [h, hc4]
def vldS (v : api_Verifier) : Bool := ((word v.Salt && decide (v.Rounds ≥ 1)) && decide (v.Rounds ≤ 64)) && hexOK v.Hash
theorem hex4 (b : Bool) : (hc4 b == 0) = b := by cases b <;> rfl
theorem secret_Valid_eq (v : api_Verifier) (hs : fits v.Salt) : secret_Valid v = some (vldS v) := by
  obtain ⟨x, hx⟩ := digest_ReadHex_eq v.Hash
  unfold secret_Valid vldS
  rw [hx, Option.bind_some, fold_Word_eq _ hs, Option.bind_some]
  simp only [hex4]
/-! ### passwords -/
def pwS (s : Str) : Bool := s.all prt && (decide (8 ≤ s.length) && decide (s.length ≤ 256))
theorem prt_byte (u : UInt8) (b : Option Bool) : (Option.bind (if decide ((u.toNat : Int) < 32) = true then some true else some (decide ((u.toNat : Int) > 126))) fun z5 => if z5 = true then some false else b) = if prt u then b else some false := by
  unfold prt
  by_cases h1 : u.toNat < 32
  · rw [if_pos (decide_eq_true (by omega))]
    simp [show ¬ 32 ≤ u.toNat by omega]
  · rw [if_neg (by simp; omega)]
    by_cases h2 : u.toNat > 126
    · simp [show ¬ u.toNat ≤ 126 by omega, show (126 : Int) < u.toNat by omega]
    · simp [show u.toNat ≤ 126 by omega, show 32 ≤ u.toNat by omega, show ¬ (126 : Int) < u.toNat by omega]
theorem isPassword_loop (s : Str) (hs : fits s) : ∀ (r : Str) (i n : Nat), s.drop i = r → i ≤ s.length → r.length < n →
    secret_isPassword_L1 n s (s.length : Int) (i : Int) = some (r.all prt && (decide (8 ≤ s.length) && decide (s.length ≤ 256))) := by
  unfold fits at hs
  intro r
  induction r with
  | nil =>
    intro i n hd hi hn
    obtain ⟨n, rfl⟩ : ∃ k, n = k + 1 := ⟨n - 1, by simp at hn; omega⟩
    have := drop_nil hd
    simp only [secret_isPassword_L1, show ¬ ((i : Int) < s.length) by omega, decide_false, Bool.false_eq_true, if_false, List.all_nil, Bool.true_and, Option.some.injEq]
    congr 1
    · rw [decide_eq_decide]; omega
    · rw [decide_eq_decide]; omega
  | cons u r ih =>
    intro i n hd hi hn
    obtain ⟨n, rfl⟩ : ∃ k, n = k + 1 := ⟨n - 1, by simp at hn; omega⟩
    obtain ⟨h1, h2, h3⟩ := drop_more hd
    have hlt := drop_lt hd
    simp only [secret_isPassword_L1, show ((i : Int) < s.length) by omega, decide_true, if_true, inb_n, h1, chk_true, byteAt_some h2, w64n (show i < 9223372036854775807 by omega), prt_byte, List.all_cons]
    cases hp : prt u with
    | false => rfl
    | true => simp only [if_true, Bool.true_and]; exact ih (i + 1) n h3 (by omega) (by simp at hn; omega)
theorem secret_isPassword_eq (s : Str) (hs : fits s) : secret_isPassword s = some (pwS s) := isPassword_loop s hs s 0 fuel rfl (by omega) (fuel_pos hs)
/-! ### iterated digests -/
def itN (salt : Str) : Nat → Str → Str
  | 0, h => h
  | n + 1, h => itN salt n (textS (h ++ [124] ++ salt))
def itS (salt s : Str) (r : Int) : Str := itN salt (gmin (gmax r 0) 64).toNat (textS (salt ++ [124] ++ s))
theorem Iterate_loop (salt : Str) (hs : salt.length ≤ 1000000) (N : Nat) (hN : N ≤ 64) : ∀ (k i n : Nat) (h : Str), i + k = N → k < n → h.length = 16 →
    digest_Iterate_L1 n salt h (N : Int) (i : Int) = some (itN salt k h) := by
  intro k
  induction k with
  | zero =>
    intro i n h hi hn hh
    obtain ⟨n, rfl⟩ : ∃ k, n = k + 1 := ⟨n - 1, by omega⟩
    simp only [digest_Iterate_L1, show ¬ ((i : Int) < (N : Int)) by omega, decide_false, Bool.false_eq_true, if_false, itN]
  | succ k ih =>
    intro i n h hi hn hh
    obtain ⟨n, rfl⟩ : ∃ k, n = k + 1 := ⟨n - 1, by omega⟩
    simp only [digest_Iterate_L1, show ((i : Int) < (N : Int)) by omega, decide_true, if_true, itN]
    rw [chk_t (by simp [fitS]; omega), chk_t (by simp [fitS]; omega), digest_Text_eq _ (by unfold fits; simp; omega), Option.bind_some, w64n (by omega)]
    exact ih (i + 1) n _ (by omega) (by omega) (textS_len _)
theorem digest_Iterate_eq (salt s : Str) (r : Int) (h1 : salt.length ≤ 1000000) (h2 : s.length ≤ 1000000) : digest_Iterate salt s r = some (itS salt s r) := by
  unfold digest_Iterate itS
  rw [chk_t (by simp [fitS]; omega), chk_t (by simp [fitS]; omega), digest_Text_eq _ (by unfold fits; simp; omega), Option.bind_some]
  have hr : 0 ≤ gmin (gmax r 0) 64 ∧ gmin (gmax r 0) 64 ≤ 64 := by unfold gmin gmax; split <;> split <;> omega
  have he : gmin (gmax r 0) 64 = ((gmin (gmax r 0) 64).toNat : Int) := by omega
  have := Iterate_loop salt h1 (gmin (gmax r 0) 64).toNat (by omega) (gmin (gmax r 0) 64).toNat 0 fuel (textS (salt ++ [124] ++ s)) (by omega) (by unfold fuel; omega) (textS_len _)
  rw [← he] at this
  exact this
def chkS (v : api_Verifier) (p : Str) : Bool := (vldS v && pwS p) && v.Hash == itS v.Salt p v.Rounds
theorem vldS_salt {v : api_Verifier} (h : vldS v = true) : v.Salt.length ≤ 64 := by
  simp only [vldS, word, Bool.and_eq_true, decide_eq_true_eq] at h; exact h.1.1.1.2.2
theorem pwS_len {p : Str} (h : pwS p = true) : p.length ≤ 256 := by
  simp only [pwS, Bool.and_eq_true, decide_eq_true_eq] at h; exact h.2.2
theorem secret_Check_eq (v : api_Verifier) (p : Str) (hs : fits v.Salt) (hp : fits p) : secret_Check v p = some (chkS v p) := by
  unfold secret_Check chkS
  rw [secret_Valid_eq v hs, Option.bind_some]
  cases h1 : vldS v with
  | false => rfl
  | true =>
    rw [if_pos rfl, secret_isPassword_eq p hp]
    cases h2 : pwS p with
    | false => rfl
    | true =>
      have a1 := vldS_salt h1
      have a2 := pwS_len h2
      simp only [Option.bind_some, if_true, digest_Iterate_eq v.Salt p v.Rounds (by omega) (by omega), Bool.true_and]
def zvS : api_Verifier := ⟨[], 0, []⟩
/-! ### the reference's verifiers -/
theorem refHex_loopS (s : Str) (hs : s.length = 16) : ∀ (r : Str) (i n : Nat) (n4 : Int), s.drop i = r → i ≤ 16 → r.length < n →
    ∃ v, ref03_ReadHex_L1 n s n4 (i : Int) = some (v, hc4 (r.all hexB)) := by
  intro r
  induction r with
  | nil =>
    intro i n n4 hd hi hn
    obtain ⟨n, rfl⟩ : ∃ k, n = k + 1 := ⟨n - 1, by simp at hn; omega⟩
    have := drop_nil hd
    exact ⟨n4, by simp only [ref03_ReadHex_L1, show ¬ ((i : Int) < 16) by omega, decide_false, Bool.false_eq_true, if_false]; rfl⟩
  | cons u r ih =>
    intro i n n4 hd hi hn
    obtain ⟨n, rfl⟩ : ∃ k, n = k + 1 := ⟨n - 1, by simp at hn; omega⟩
    obtain ⟨h1, h2, h3⟩ := drop_more hd
    have hlt := drop_lt hd
    simp only [ref03_ReadHex_L1, show ((i : Int) < 16) by omega, decide_true, if_true, inb_n, h1, chk_true, byteAt_some h2, ref03_ReadHex_B2, w64n (show i < 9223372036854775807 by omega), List.all_cons]
    by_cases c1 : 48 ≤ u.toNat ∧ u.toNat ≤ 57
    · have hb : hexB u = true := by simp [hexB, c1]
      rw [if_pos (by simp; omega), hb]
      simp only [Bool.true_and]
      exact ih (i + 1) n _ h3 (by omega) (by simp at hn; omega)
    · rw [if_neg (by simp; omega)]
      by_cases c2 : 97 ≤ u.toNat ∧ u.toNat ≤ 102
      · have hb : hexB u = true := by simp [hexB, c2]
        rw [if_pos (by simp; omega), hb]
        simp only [Bool.true_and]
        exact ih (i + 1) n _ h3 (by omega) (by simp at hn; omega)
      · have hb : hexB u = false := by simp only [hexB, Bool.or_eq_false_iff, Bool.and_eq_false_iff, decide_eq_false_iff_not]; omega
        rw [if_neg (by simp; omega), hb]
        exact ⟨0, rfl⟩
theorem ref03_ReadHex_eq (s : Str) : ∃ v, ref03_ReadHex s = some (v, hc4 (hexOK s)) := by
  unfold ref03_ReadHex hexOK
  by_cases h : s.length = 16
  · obtain ⟨v, hv⟩ := refHex_loopS s h s 0 fuel 0 rfl (by omega) (by rw [h]; unfold fuel; omega)
    refine ⟨v, ?_⟩
    have h16 : ((s.length : Int) != 16) = false := by simp [h]
    rw [h16, if_neg (by simp)]
    have hv' : ref03_ReadHex_L1 fuel s 0 0 = _ := hv
    rw [hv', h]; simp
  · have h16 : ((s.length : Int) != 16) = true := by simp; omega
    refine ⟨0, ?_⟩
    rw [h16, if_pos rfl]; simp [h, hc4]
theorem ref22_Valid_eq (v : api_Verifier) (hs : fits v.Salt) : ref22_Valid v = some (vldS v) := by
  obtain ⟨x, hx⟩ := ref03_ReadHex_eq v.Hash
  unfold ref22_Valid vldS
  rw [hx, Option.bind_some, ref01_Word_eq _ hs, Option.bind_some]
  simp only [hex4]
theorem refPass_loop (s : Str) (hs : fits s) : ∀ (r : Str) (i n : Nat), s.drop i = r → i ≤ s.length → r.length < n →
    ref22_Password_L1 n s (i : Int) = some (r.all prt) := by
  unfold fits at hs
  intro r
  induction r with
  | nil =>
    intro i n hd hi hn
    obtain ⟨n, rfl⟩ : ∃ k, n = k + 1 := ⟨n - 1, by simp at hn; omega⟩
    have := drop_nil hd
    simp only [ref22_Password_L1, show ¬ ((i : Int) < s.length) by omega, decide_false, Bool.false_eq_true, if_false, List.all_nil]
  | cons u r ih =>
    intro i n hd hi hn
    obtain ⟨n, rfl⟩ : ∃ k, n = k + 1 := ⟨n - 1, by simp at hn; omega⟩
    obtain ⟨h1, h2, h3⟩ := drop_more hd
    have hlt := drop_lt hd
    simp only [ref22_Password_L1, show ((i : Int) < s.length) by omega, decide_true, if_true, inb_n, h1, chk_true, byteAt_some h2, w64n (show i < 9223372036854775807 by omega), prt_byte, List.all_cons]
    cases hp : prt u with
    | false => rfl
    | true => simp only [if_true, Bool.true_and]; exact ih (i + 1) n h3 (by omega) (by simp at hn; omega)
theorem ref22_Password_eq (s : Str) (hs : fits s) : ref22_Password s = some (pwS s) := by
  unfold ref22_Password pwS
  by_cases h : s.length < 8 ∨ s.length > 256
  · have : ((decide ((s.length : Int) < 8)) || (decide ((s.length : Int) > 256))) = true := by simp; omega
    rw [if_pos this]
    have h2 : (decide (8 ≤ s.length) && decide (s.length ≤ 256)) = false := by
      simp only [Bool.and_eq_false_iff, decide_eq_false_iff_not]; omega
    rw [h2, Bool.and_false]
  · have : ((decide ((s.length : Int) < 8)) || (decide ((s.length : Int) > 256))) = false := by simp; omega
    rw [if_neg (by rw [this]; simp)]
    have h2 : (decide (8 ≤ s.length) && decide (s.length ≤ 256)) = true := by simp; omega
    rw [h2, Bool.and_true]
    exact refPass_loop s hs s 0 fuel rfl (by omega) (fuel_pos hs)
theorem refIter_loop (salt : Str) (hs : salt.length ≤ 1000000) (r : Int) : ∀ (k i n : Nat) (h : Str), (gmin (gmax r 0) 64).toNat = i + k → k < n → h.length = 16 →
    ref03_Iterate_L1 n salt r h (i : Int) = some (itN salt k h) := by
  have hr : 0 ≤ gmin (gmax r 0) 64 ∧ gmin (gmax r 0) 64 ≤ 64 := by unfold gmin gmax; split <;> split <;> omega
  have hiff : ∀ i : Nat, ((i : Int) < gmin (gmax r 0) 64) ↔ ((i : Int) < r ∧ (i : Int) < 64) := by
    intro i; unfold gmin gmax; split <;> split <;> omega
  intro k
  induction k with
  | zero =>
    intro i n h hi hn hh
    obtain ⟨n, rfl⟩ : ∃ k, n = k + 1 := ⟨n - 1, by omega⟩
    have : ((decide ((i : Int) < r)) && (decide ((i : Int) < 64))) = false := by
      rw [← Bool.not_eq_true, Bool.and_eq_true, decide_eq_true_eq, decide_eq_true_eq, ← hiff]; omega
    simp only [ref03_Iterate_L1, this, Bool.false_eq_true, if_false, itN]
  | succ k ih =>
    intro i n h hi hn hh
    obtain ⟨n, rfl⟩ : ∃ k, n = k + 1 := ⟨n - 1, by omega⟩
    have : ((decide ((i : Int) < r)) && (decide ((i : Int) < 64))) = true := by
      rw [Bool.and_eq_true, decide_eq_true_eq, decide_eq_true_eq, ← hiff]; omega
    simp only [ref03_Iterate_L1, this, if_true, itN]
    rw [chk_t (by simp [fitS]; omega), chk_t (by simp [fitS]; omega), ref03_Text_eq _ (by unfold fits; simp; omega), Option.bind_some, w64n (by omega)]
    exact ih (i + 1) n _ (by omega) (by omega) (textS_len _)
theorem ref03_Iterate_eq (salt s : Str) (r : Int) (h1 : salt.length ≤ 1000000) (h2 : s.length ≤ 1000000) : ref03_Iterate salt s r = some (itS salt s r) := by
  unfold ref03_Iterate itS
  rw [chk_t (by simp [fitS]; omega), chk_t (by simp [fitS]; omega), ref03_Text_eq _ (by unfold fits; simp; omega), Option.bind_some]
  have hr : 0 ≤ gmin (gmax r 0) 64 ∧ gmin (gmax r 0) 64 ≤ 64 := by unfold gmin gmax; split <;> split <;> omega
  exact refIter_loop salt h1 r (gmin (gmax r 0) 64).toNat 0 fuel _ (by omega) (by unfold fuel; omega) (textS_len _)
theorem ref22_Check_eq (v : api_Verifier) (p : Str) (hs : fits v.Salt) (hp : fits p) : ref22_Check v p = some (chkS v p) := by
  unfold ref22_Check chkS
  rw [ref22_Valid_eq v hs, Option.bind_some]
  cases h1 : vldS v with
  | false => rfl
  | true =>
    rw [if_pos rfl, ref22_Password_eq p hp]
    cases h2 : pwS p with
    | false => rfl
    | true =>
      have a1 := vldS_salt h1
      have a2 := pwS_len h2
      simp only [Option.bind_some, if_true, ref03_Iterate_eq v.Salt p v.Rounds (by omega) (by omega), Bool.true_and]
/-- two dots in a row -/
def dots : Str → Bool
  | a :: b :: r => (a == 46 && b == 46) || dots (b :: r)
  | _ => false
def valid (s : Str) : Bool := word s && !(s.head? == some 46) && !(s.getLast? == some 46) && !dots s
theorem contains_dots (s : Str) : Lib.contains s [46, 46] = dots s := by
  have key : ∀ s : Str, (decide (0 ≤ Lib.index s [46, 46]) = dots s) ∧ -1 ≤ Lib.index s [46, 46] := by
    intro s
    induction s with
    | nil => exact ⟨rfl, by decide⟩
    | cons a r ih =>
      obtain ⟨ih1, ih2⟩ := ih
      have hi : Lib.index (a :: r) [46, 46] = if ([46, 46] : Str).isPrefixOf (a :: r) then 0 else if Lib.index r [46, 46] == -1 then -1 else Lib.index r [46, 46] + 1 := by
        simp only [Lib.index]
      have hp : ([46, 46] : Str).isPrefixOf (a :: r) = (a == 46 && r.head? == some 46) := by
        cases r with
        | nil => simp [List.isPrefixOf]
        | cons b r => simp [List.isPrefixOf, Bool.beq_comm]
      have hd : dots (a :: r) = ((a == 46 && r.head? == some 46) || dots r) := by
        cases r with
        | nil => simp [dots]
        | cons b r => simp [dots]
      rw [hi, hp, hd, ← ih1]
      cases (a == 46 && r.head? == some 46) with
      | true => simp
      | false =>
        simp only [Bool.false_eq_true, if_false, Bool.false_or]
        by_cases h : Lib.index r [46, 46] = -1
        · rw [h]; simp
        · have h' : (Lib.index r [46, 46] == -1) = false := by simpa using h
          rw [h']
          simp only [Bool.false_eq_true, if_false]
          refine ⟨?_, by omega⟩
          rw [Bool.eq_iff_iff]; simp; omega
  exact (key s).1
theorem u8_eq (u : UInt8) (k : Nat) (hk : k < 256) : ((u.toNat : Int) == (k : Int)) = (u == UInt8.ofNat k) := by
  rw [Bool.eq_iff_iff, beq_iff_eq, beq_iff_eq]
  constructor
  · intro h
    have : u.toNat = k := by omega
    exact UInt8.toNat_inj.1 (by rw [this, UInt8.toNat_ofNat_of_lt' (by simpa using hk)])
  · rintro rfl
    rw [UInt8.toNat_ofNat_of_lt' (by simpa using hk)]
theorem u8_46 (u : UInt8) : ((u.toNat : Int) == 46) = (u == 46) := u8_eq u 46 (by decide)
theorem byteAt_first {s : Str} (h : 1 ≤ s.length) : (byteAt s 0 == 46) = (s.head? == some 46) := by
  cases s with
  | nil => simp at h
  | cons a r =>
    have : byteAt (a :: r) 0 = (a.toNat : Int) := by simp [byteAt]
    rw [this, u8_46]; simp
theorem byteAt_end {s : Str} (h : 1 ≤ s.length) : (byteAt s (((s.length - 1 : Nat) : Int)) == 46) = (s.getLast? == some 46) := by
  have h1 : s[s.length - 1]? = some s[s.length - 1] := List.getElem?_eq_getElem (by omega)
  rw [byteAt_some h1, u8_46, List.getLast?_eq_getElem?, h1]; simp
theorem word_len {s : Str} (h : word s = true) : 1 ≤ s.length ∧ s.length ≤ 64 := by
  simp only [word, Bool.and_eq_true, decide_eq_true_eq] at h; exact h.2
theorem last_ix {s : Str} (h : 1 ≤ s.length ∧ s.length ≤ 64) : IntKind.i64.wrap ((s.length : Int) - 1) = ((s.length - 1 : Nat) : Int) := by
  rw [w64 (by omega) (by omega)]; omega
theorem inb_0 {n : Nat} (h : 1 ≤ n) : inb 0 n = true := by simp [inb] <;> omega
theorem scope_valid_eq (s : Str) (hs : fits s) : scope_valid s = some (valid s) := by
  unfold scope_valid valid
  rw [fold_Word_eq s hs, Option.bind_some]
  cases hw : word s with
  | false => simp
  | true =>
    have hl := word_len hw
    simp only [if_true, inb_0 hl.1, chk_true, Option.bind_some, bne, byteAt_first hl.1, last_ix hl, Bool.true_and]
    cases s.head? == some 46 with
    | true => simp
    | false =>
      have h2 : inb ((s.length - 1 : Nat) : Int) s.length = true := by rw [inb_n]; simp; omega
      simp only [Bool.not_false, if_true, h2, chk_true, byteAt_end hl.1, Option.bind_some, Bool.true_and]
      cases s.getLast? == some 46 with
      | true => simp
      | false =>
        have h3 : decide (s.length < 4294967281) = true := by simp; omega
        simp only [Bool.not_false, if_true, lib_Contains, h3, chk_true, Option.bind_some, contains_dots, Bool.true_and]
theorem ref29_Valid_L1_eq (s : Str) (hs : s.length ≤ 64) : ∀ (r : Str) (i n : Nat) (p : UInt8), s.drop i = p :: r → r.length < n →
    ref29_Valid_L1 n s ((i + 1 : Nat) : Int) = some (!dots (p :: r)) := by
  intro r
  induction r with
  | nil =>
    intro i n p hd hn
    obtain ⟨n, rfl⟩ : ∃ k, n = k + 1 := ⟨n - 1, by simp at hn; omega⟩
    have := drop_nil (drop_more hd).2.2
    simp [ref29_Valid_L1, show ¬ ((i : Int) + 1 < s.length) by omega, dots]
  | cons u r ih =>
    intro i n p hd hn
    obtain ⟨n, rfl⟩ : ∃ k, n = k + 1 := ⟨n - 1, by simp at hn; omega⟩
    obtain ⟨g1, g2, g3⟩ := drop_more hd
    obtain ⟨h1, h2, h3⟩ := drop_more g3
    have hlt := drop_lt g3
    have ih' := ih (i + 1) n u g3 (by simp at hn; omega)
    have e : IntKind.i64.wrap (((i + 1 : Nat) : Int) - 1) = (i : Int) := by rw [w64 (by omega) (by omega)]; omega
    simp only [ref29_Valid_L1, show (((i + 1 : Nat) : Int) < s.length) by omega, decide_true, if_true, inb_n, h1, g1, chk_true, byteAt_some h2, e, byteAt_some g2, w64n (show i + 1 < 9223372036854775807 by omega), ih', u8_46, Option.bind_some]
    have hd : dots (p :: u :: r) = ((p == 46 && u == 46) || dots (u :: r)) := rfl
    rw [hd]
    generalize dots (u :: r) = q
    cases u == 46 <;> cases p == 46 <;> simp
theorem ref29_Valid_eq (s : Str) (hs : fits s) : ref29_Valid s = some (valid s) := by
  unfold ref29_Valid valid
  rw [ref01_Word_eq s hs, Option.bind_some]
  cases hw : word s with
  | false => simp
  | true =>
    have hl := word_len hw
    have h2 : inb ((s.length - 1 : Nat) : Int) s.length = true := by rw [inb_n]; simp; omega
    simp only [Bool.not_true, Bool.false_eq_true, if_false, inb_0 hl.1, chk_true, Option.bind_some, byteAt_first hl.1, last_ix hl, Bool.true_and, h2, byteAt_end hl.1]
    cases s.head? == some 46 with
    | true => simp
    | false =>
      simp only [Bool.false_eq_true, if_false, Option.bind_some]
      cases s.getLast? == some 46 with
      | true => simp
      | false =>
        obtain ⟨p, r, rfl⟩ : ∃ p r, s = p :: r := by
          cases s with
          | nil => simp at hl
          | cons p r => exact ⟨p, r, rfl⟩
        have := ref29_Valid_L1_eq (p :: r) hl.2 r 0 fuel p rfl (by simp at hl; unfold fuel; omega)
        simpa using this
/-- where a string is first found -/
def ixOf (v : Str) : Nat → List Str → Int
  | _, [] => -1
  | i, x :: r => if v == x then i else ixOf v (i + 1) r
theorem slices_Index_eq (l : List Str) (v : Str) (hl : fits l) : slices_Index_string_string l v = some (ixOf v 0 l) := by
  have key : ∀ (r : List Str) (i n : Nat), l.drop i = r → i ≤ l.length → r.length < n →
      slices_Index_string_string_L1 n l v (l.length : Int) (i : Int) = some (ixOf v i r) := by
    intro r
    induction r with
    | nil =>
      intro i n hd hi hn
      obtain ⟨n, rfl⟩ : ∃ k, n = k + 1 := ⟨n - 1, by simp at hn; omega⟩
      have := drop_nil hd
      simp [slices_Index_string_string_L1, show ¬ ((i : Int) < l.length) by omega, ixOf]
    | cons x r ih =>
      intro i n hd hi hn
      obtain ⟨n, rfl⟩ : ∃ k, n = k + 1 := ⟨n - 1, by simp at hn; omega⟩
      obtain ⟨h1, h2, h3⟩ := drop_more hd
      have hlt := drop_lt hd
      have := hl; unfold fits at this
      simp only [slices_Index_string_string_L1, show ((i : Int) < l.length) by omega, decide_true, if_true, idx_n, h2, Option.bind_some, w64n (show i < 9223372036854775807 by omega), ih (i + 1) n h3 (by omega) (by simp at hn; omega), ixOf]
      cases v == x <;> simp
  exact key l 0 fuel rfl (by omega) (fuel_pos hl)
theorem ixOf_pos (v : Str) : ∀ (r : List Str) (i : Nat), decide (ixOf v i r ≥ 0) = r.contains v
  | [], _ => by simp [ixOf]
  | x :: r, i => by
    unfold ixOf
    rw [List.contains_cons]
    cases h : v == x with
    | true => simp
    | false => simpa using ixOf_pos v r (i + 1)
theorem slices_Contains_eq (l : List Str) (v : Str) (hl : fits l) : slices_Contains_string_string l v = some (l.contains v) := by
  simp only [slices_Contains_string_string, slices_Index_eq l v hl, Option.bind_some, ixOf_pos]
/-- the first error of a list of scopes, p being those before -/
def ckL : List Str → List Str → Int
  | _, [] => 0
  | p, x :: r => if !valid x then 5 else if p.contains x then 7 else ckL (p ++ [x]) r
def ck (l : List Str) : Int := if decide ((l.length : Int) > 16) then 3 else ckL [] l
/-- each string can be held -/
def fitsAll (l : List Str) : Prop := ∀ s ∈ l, fits s
theorem fitsAll_at {l : List Str} (h : fitsAll l) {i : Nat} {x : Str} (hx : l[i]? = some x) : fits x := h x (List.mem_of_getElem? hx)
theorem take_len {T : Type} {l : List T} {i : Nat} (h : i < l.length) : (l.take i).length = i := by simp; omega
theorem scope_Check_eq (l : List Str) (hl : fitsAll l) : scope_Check l = some (ck l) := by
  unfold scope_Check ck
  by_cases h16 : (l.length : Int) > 16
  · simp [h16]
  · simp only [h16, decide_false, Bool.false_eq_true, if_false]
    have key : ∀ (r : List Str) (i n : Nat), l.drop i = r → i ≤ l.length → r.length < n → scope_Check_L1 n l l (l.length : Int) (i : Int) = some (ckL (l.take i) r) := by
      intro r
      induction r with
      | nil =>
        intro i n hd hi hn
        obtain ⟨n, rfl⟩ : ∃ k, n = k + 1 := ⟨n - 1, by simp at hn; omega⟩
        have := drop_nil hd
        simp [scope_Check_L1, show ¬ ((i : Int) < l.length) by omega, ckL]
      | cons x r ih =>
        intro i n hd hi hn
        obtain ⟨n, rfl⟩ : ∃ k, n = k + 1 := ⟨n - 1, by simp at hn; omega⟩
        obtain ⟨h1, h2, h3⟩ := drop_more hd
        have hlt := drop_lt hd
        have hi' : inc 0 (i : Int) l.length = true := by rw [inc_0]; simp; omega
        have hft : fits (l.take i) := by unfold fits; rw [take_len hlt]; omega
        simp only [scope_Check_L1, show ((i : Int) < l.length) by omega, decide_true, if_true, idx_n, h2, Option.bind_some, scope_valid_eq x (fitsAll_at hl h2), hi', chk_true, cut_0, slices_Contains_eq _ _ hft, w64n (show i < 9223372036854775807 by omega), ih (i + 1) n h3 (by omega) (by simp at hn; omega), ckL, take_more hd]
        cases valid x <;> cases (l.take i).contains x <;> simp
    exact key l 0 fuel rfl (by omega) (by unfold fuel; omega)
theorem ref29_Check_eq (l : List Str) (hl : fitsAll l) : ref29_Check l = some (ck l) := by
  unfold ref29_Check ck
  by_cases h16 : (l.length : Int) > 16
  · simp [h16]
  · simp only [h16, decide_false, Bool.false_eq_true, if_false]
    have inner : ∀ (r0 : List Str → Int → Option Int) (i : Nat) (x : Str), l[i]? = some x → ∀ (q : List Str) (k n : Nat), (l.take i).drop k = q → k ≤ i → q.length < n →
        ref29_Check_L2 r0 n l (i : Int) (k : Int) = if q.contains x then some 7 else r0 l ((i + 1 : Nat) : Int) := by
      intro r0 i x hx q
      have hlt : i < l.length := (List.getElem?_eq_some_iff.1 hx).1
      have htl := take_len hlt
      induction q with
      | nil =>
        intro k n hd hk hn
        obtain ⟨n, rfl⟩ : ∃ k, n = k + 1 := ⟨n - 1, by simp at hn; omega⟩
        have := drop_nil hd
        simp only [ref29_Check_L2, show ¬ ((k : Int) < i) by omega, decide_false, Bool.false_eq_true, if_false, w64n (show i < 9223372036854775807 by omega)]
        simp
      | cons y q ih =>
        intro k n hd hk hn
        obtain ⟨n, rfl⟩ : ∃ k, n = k + 1 := ⟨n - 1, by simp at hn; omega⟩
        obtain ⟨h1, h2, h3⟩ := drop_more hd
        have hkl := drop_lt hd
        have h2' : l[k]? = some y := by rw [List.getElem?_take_of_lt (by omega)] at h2; exact h2
        simp only [ref29_Check_L2, show ((k : Int) < i) by omega, decide_true, if_true, idx_n, h2', hx, Option.bind_some, w64n (show k < 9223372036854775807 by omega), ih (k + 1) n h3 (by omega) (by simp at hn; omega), List.contains_cons]
        rw [Bool.beq_comm (a := x) (b := y)]
        cases h : y == x <;> simp [h]
    have key : ∀ (r : List Str) (i n : Nat), l.drop i = r → i ≤ l.length → r.length < n → ref29_Check_L1 n l (i : Int) = some (ckL (l.take i) r) := by
      intro r
      induction r with
      | nil =>
        intro i n hd hi hn
        obtain ⟨n, rfl⟩ : ∃ k, n = k + 1 := ⟨n - 1, by simp at hn; omega⟩
        have := drop_nil hd
        simp [ref29_Check_L1, show ¬ ((i : Int) < l.length) by omega, ckL]
      | cons x r ih =>
        intro i n hd hi hn
        obtain ⟨n, rfl⟩ : ∃ k, n = k + 1 := ⟨n - 1, by simp at hn; omega⟩
        obtain ⟨h1, h2, h3⟩ := drop_more hd
        have hlt := drop_lt hd
        have hin := inner (ref29_Check_L1 n) i x h2 (l.take i) 0 fuel rfl (by omega) (by rw [take_len hlt]; unfold fuel; omega)
        simp only [ref29_Check_L1, show ((i : Int) < l.length) by omega, decide_true, if_true, idx_n, h2, Option.bind_some, ref29_Valid_eq x (fitsAll_at hl h2), ckL]
        have hin' : ref29_Check_L2 (ref29_Check_L1 n) fuel l (i : Int) 0 = if (l.take i).contains x then some 7 else ref29_Check_L1 n l ((i + 1 : Nat) : Int) := hin
        rw [hin', ih (i + 1) n h3 (by omega) (by simp at hn; omega), take_more hd]
        cases valid x <;> cases (l.take i).contains x <;> simp
    exact key l 0 fuel rfl (by omega) (by unfold fuel; omega)
theorem valid_word {s : Str} (h : valid s = true) : word s = true := by simp only [valid, Bool.and_eq_true] at h; exact h.1.1.1
/-! ### one scope within another -/
def pre (a b : Str) : Bool := decide (b.length > a.length) && (b.take (a.length + 1) == a ++ [46])
def imp (a b : Str) : Bool := (valid a && valid b) && (a == b || pre a b)
theorem valid_len {s : Str} (h : valid s = true) : 1 ≤ s.length ∧ s.length ≤ 64 := word_len (valid_word h)
theorem pre_prefix (a b : Str) (hl : a.length ≤ 64) (hb : b.length ≤ 64) : strings_HasPrefix b (a ++ [46]) = some (pre a b) := by
  have e : (a ++ [46]).length = a.length + 1 := by simp
  unfold strings_HasPrefix internal_stringslite_HasPrefix pre
  rw [e]
  by_cases h : b.length > a.length
  · have h1 : inc 0 ((a.length + 1 : Nat) : Int) b.length = true := by rw [inc_0]; simp; omega
    simp only [show ((b.length : Int) ≥ ((a.length + 1 : Nat) : Int)) by omega, decide_true, if_true, h1, chk_true, cut_0, Option.bind_some, h, Bool.true_and]
  · have h0 : decide ((b.length : Int) ≥ ((a.length + 1 : Nat) : Int)) = false := by simp; omega
    simp only [h0, Bool.false_eq_true, if_false, Option.bind_some, h, decide_false, Bool.false_and]
theorem scope_Implies_eq (a b : Str) (ha : fits a) (hb : fits b) : scope_Implies a b = some (imp a b) := by
  unfold scope_Implies imp
  rw [scope_valid_eq a ha, scope_valid_eq b hb, Option.bind_some]
  cases va : valid a with
  | false => simp
  | true =>
    cases vb : valid b with
    | false => simp
    | true =>
      have la := valid_len va
      have lb := valid_len vb
      have hf : fitS a [46] = true := by simp [fitS]; omega
      simp only [if_true, Option.bind_some, Bool.true_and, hf, chk_true, pre_prefix a b la.2 lb.2]
      cases a == b <;> simp
theorem ref29_Implies_eq (a b : Str) (ha : fits a) (hb : fits b) : ref29_Implies a b = some (imp a b) := by
  unfold ref29_Implies imp
  rw [ref29_Valid_eq a ha, ref29_Valid_eq b hb, Option.bind_some]
  cases va : valid a with
  | false => simp
  | true =>
    cases vb : valid b with
    | false => simp
    | true =>
      have la := valid_len va
      have lb := valid_len vb
      have hf : fitS a [46] = true := by simp [fitS]; omega
      simp only [if_true, Option.bind_some, Bool.true_and, hf, chk_true, w64n (show a.length < 9223372036854775807 by omega), cut_0, pre]
      cases a == b with
      | true => simp
      | false =>
        by_cases h : b.length > a.length
        · have h1 : inc 0 ((a.length + 1 : Nat) : Int) b.length = true := by rw [inc_0]; simp; omega
          simp only [Bool.false_eq_true, if_false, show ((b.length : Int) > (a.length : Int)) by omega, decide_true, if_true, h1, chk_true, Option.bind_some, h, Bool.true_and, Bool.false_or]
        · simp [show ¬ ((b.length : Int) > (a.length : Int)) by omega, h]
def cov (l : List Str) (s : Str) : Bool := l.any fun t => imp t s
def within (a b : List Str) : Bool := a.all fun x => cov b x
/-- few enough strings that can be held -/
def sm (l : List Str) : Prop := l.length ≤ 1000 ∧ fitsAll l
theorem sm.at {l : List Str} (h : sm l) {i : Nat} {x : Str} (hx : l[i]? = some x) : fits x := fitsAll_at h.2 hx
theorem scope_covered_eq (s : Str) (l : List Str) (hs : fits s) (hl : sm l) : scope_covered s l = some (cov l s) := by
  have key : ∀ (r : List Str) (i n : Nat), l.drop i = r → i ≤ l.length → r.length < n → scope_covered_L1 n s l (l.length : Int) (i : Int) = some (r.any fun t => imp t s) := by
    have := hl.1
    intro r
    induction r with
    | nil =>
      intro i n hd hi hn
      obtain ⟨n, rfl⟩ : ∃ k, n = k + 1 := ⟨n - 1, by simp at hn; omega⟩
      have := drop_nil hd
      simp [scope_covered_L1, show ¬ ((i : Int) < l.length) by omega]
    | cons x r ih =>
      intro i n hd hi hn
      obtain ⟨n, rfl⟩ : ∃ k, n = k + 1 := ⟨n - 1, by simp at hn; omega⟩
      obtain ⟨h1, h2, h3⟩ := drop_more hd
      have hlt := drop_lt hd
      simp only [scope_covered_L1, show ((i : Int) < l.length) by omega, decide_true, if_true, idx_n, h2, Option.bind_some, scope_Implies_eq x s (hl.at h2) hs, w64n (show i < 9223372036854775807 by omega), ih (i + 1) n h3 (by omega) (by simp at hn; omega), List.any_cons]
      cases imp x s <;> simp
  exact key l 0 fuel rfl (by omega) (by have := hl.1; unfold fuel; omega)
theorem ref29_covers_eq (l : List Str) (s : Str) (hl : sm l) (hs : fits s) : ref29_covers l s = some (cov l s) := by
  have key : ∀ (r : List Str) (i n : Nat), l.drop i = r → i ≤ l.length → r.length < n → ref29_covers_L1 n l s (i : Int) = some (r.any fun t => imp t s) := by
    have := hl.1
    intro r
    induction r with
    | nil =>
      intro i n hd hi hn
      obtain ⟨n, rfl⟩ : ∃ k, n = k + 1 := ⟨n - 1, by simp at hn; omega⟩
      have := drop_nil hd
      simp [ref29_covers_L1, show ¬ ((i : Int) < l.length) by omega]
    | cons x r ih =>
      intro i n hd hi hn
      obtain ⟨n, rfl⟩ : ∃ k, n = k + 1 := ⟨n - 1, by simp at hn; omega⟩
      obtain ⟨h1, h2, h3⟩ := drop_more hd
      have hlt := drop_lt hd
      simp only [ref29_covers_L1, show ((i : Int) < l.length) by omega, decide_true, if_true, idx_n, h2, Option.bind_some, ref29_Implies_eq x s (hl.at h2) hs, w64n (show i < 9223372036854775807 by omega), ih (i + 1) n h3 (by omega) (by simp at hn; omega), List.any_cons]
      cases imp x s <;> simp
  exact key l 0 fuel rfl (by omega) (by have := hl.1; unfold fuel; omega)
theorem scope_Within_eq (a b : List Str) (ha : sm a) (hb : sm b) : scope_Within a b = some (within a b) := by
  have key : ∀ (r : List Str) (i n : Nat), a.drop i = r → i ≤ a.length → r.length < n → scope_Within_L1 n b a (a.length : Int) (i : Int) = some (r.all fun x => cov b x) := by
    have := ha.1
    intro r
    induction r with
    | nil =>
      intro i n hd hi hn
      obtain ⟨n, rfl⟩ : ∃ k, n = k + 1 := ⟨n - 1, by simp at hn; omega⟩
      have := drop_nil hd
      simp [scope_Within_L1, show ¬ ((i : Int) < a.length) by omega]
    | cons x r ih =>
      intro i n hd hi hn
      obtain ⟨n, rfl⟩ : ∃ k, n = k + 1 := ⟨n - 1, by simp at hn; omega⟩
      obtain ⟨h1, h2, h3⟩ := drop_more hd
      have hlt := drop_lt hd
      simp only [scope_Within_L1, show ((i : Int) < a.length) by omega, decide_true, if_true, idx_n, h2, Option.bind_some, scope_covered_eq x b (ha.at h2) hb, w64n (show i < 9223372036854775807 by omega), ih (i + 1) n h3 (by omega) (by simp at hn; omega), List.all_cons]
      cases cov b x <;> simp
  exact key a 0 fuel rfl (by omega) (by have := ha.1; unfold fuel; omega)
theorem ref29_Within_eq (a b : List Str) (ha : sm a) (hb : sm b) : ref29_Within a b = some (within a b) := by
  have key : ∀ (r : List Str) (i n : Nat), a.drop i = r → i ≤ a.length → r.length < n → ref29_Within_L1 n a b (i : Int) = some (r.all fun x => cov b x) := by
    have := ha.1
    intro r
    induction r with
    | nil =>
      intro i n hd hi hn
      obtain ⟨n, rfl⟩ : ∃ k, n = k + 1 := ⟨n - 1, by simp at hn; omega⟩
      have := drop_nil hd
      simp [ref29_Within_L1, show ¬ ((i : Int) < a.length) by omega]
    | cons x r ih =>
      intro i n hd hi hn
      obtain ⟨n, rfl⟩ : ∃ k, n = k + 1 := ⟨n - 1, by simp at hn; omega⟩
      obtain ⟨h1, h2, h3⟩ := drop_more hd
      have hlt := drop_lt hd
      simp only [ref29_Within_L1, show ((i : Int) < a.length) by omega, decide_true, if_true, idx_n, h2, Option.bind_some, ref29_covers_eq b x hb (ha.at h2), w64n (show i < 9223372036854775807 by omega), ih (i + 1) n h3 (by omega) (by simp at hn; omega), List.all_cons]
      cases cov b x <;> simp
  exact key a 0 fuel rfl (by omega) (by have := ha.1; unfold fuel; omega)
theorem ref07_Lists_eq (a b : List Str) (ha : fits a) : ref07_Lists a b = some (a == b) := by
  unfold ref07_Lists
  by_cases hlen : a.length = b.length
  · have h0 : ((a.length : Int) != (b.length : Int)) = false := by simp [hlen]
    simp only [h0, Bool.false_eq_true, if_false]
    have key : ∀ (r q : List Str) (i n : Nat), a.drop i = r → b.drop i = q → i ≤ a.length → r.length < n → ref07_Lists_L1 n a b (i : Int) = some (r == q) := by
      unfold fits at ha
      intro r
      induction r with
      | nil =>
        intro q i n hd hq hi hn
        obtain ⟨n, rfl⟩ : ∃ k, n = k + 1 := ⟨n - 1, by simp at hn; omega⟩
        have := drop_nil hd
        have hq' : q = [] := by rw [← hq]; simp; omega
        subst hq'
        simp [ref07_Lists_L1, show ¬ ((i : Int) < a.length) by omega]
      | cons x r ih =>
        intro q i n hd hq hi hn
        obtain ⟨n, rfl⟩ : ∃ k, n = k + 1 := ⟨n - 1, by simp at hn; omega⟩
        obtain ⟨h1, h2, h3⟩ := drop_more hd
        have hlt := drop_lt hd
        cases q with
        | nil => have := drop_nil hq; omega
        | cons y q =>
          obtain ⟨g1, g2, g3⟩ := drop_more hq
          simp only [ref07_Lists_L1, show ((i : Int) < a.length) by omega, decide_true, if_true, idx_n, h2, g2, Option.bind_some, w64n (show i < 9223372036854775807 by omega), ih q (i + 1) n h3 g3 (by omega) (by simp at hn; omega), List.cons_beq_cons]
          cases x == y <;> simp
    exact key a b 0 fuel rfl rfl (by omega) (fuel_pos ha)
  · have h0 : ((a.length : Int) != (b.length : Int)) = true := by simp; omega
    have h1 : (a == b) = false := by
      rw [Bool.eq_false_iff]; intro h; exact hlen (by rw [eq_of_beq h])
    simp [h0, h1]
/-! ### the sorted form -/
theorem str_lt_iff {x y : Str} : x < y ↔ ¬ y ≤ x := by
  constructor
  · intro h h'; exact str_not_lt.2 h' h
  · intro h
    rcases Decidable.em (x < y) with h1 | h1
    · exact h1
    · exact absurd (str_not_lt.1 h1) h
theorem str_lt_trans {x y z : Str} (h : x < y) (h' : y < z) : x < z := by
  rw [str_lt_iff] at *
  intro hz
  rcases str_le_total y z with h1 | h1
  · exact h (str_le_trans h1 hz)
  · exact h' h1
theorem str_lt_irrefl (x : Str) : ¬ x < x := fun h => str_lt_iff.1 h (by rcases str_le_total x x with h | h <;> exact h)
theorem str_lt_le {x y : Str} (h : x < y) : x ≤ y := by
  rcases str_le_total x y with h1 | h1
  · exact h1
  · exact absurd h1 (str_lt_iff.1 h)
theorem str_lt_of {x y : Str} (h : x ≤ y) (hn : x ≠ y) : x < y := str_lt_iff.2 fun h' => hn (str_le_antisymm h h')
/-- strictly ascending -/
def asc (l : List Str) : Prop := l.Pairwise (· < ·)
theorem asc_unique : ∀ {a b : List Str}, asc a → asc b → (∀ x, x ∈ a ↔ x ∈ b) → a = b := by
  intro a b ha hb h
  have na : a.Nodup := ha.imp (fun {x y} (h : x < y) (e : x = y) => str_lt_irrefl x (by rw [← e] at h; exact h))
  have nb : b.Nodup := hb.imp (fun {x y} (h : x < y) (e : x = y) => str_lt_irrefl x (by rw [← e] at h; exact h))
  exact sorted_unique ((List.perm_ext_iff_of_nodup na nb).2 h) (ha.imp str_lt_le) (hb.imp str_lt_le)
theorem sortS_asc {l : List Str} (h : l.Nodup) : asc (sortS l) := by
  have h1 := sortS_sorted l
  have h2 : (sortS l).Nodup := (sortS_perm l).nodup_iff.2 h
  exact (h1.and h2).imp fun h => str_lt_of h.1 h.2
/-! ### clients -/
theorem alive36 : law36_alive = some true := by kernel_rfl
def httpsS : Str := [104, 116, 116, 112, 115, 58, 47, 47]
def adr (s : Str) : Bool := (clean s && (s.take 8 == httpsS)) && !s.contains 35
theorem contains35 (s : Str) : Lib.contains s [35] = s.contains 35 := by
  have key : ∀ s : Str, (decide (0 ≤ Lib.index s [35]) = s.contains 35) ∧ -1 ≤ Lib.index s [35] := by
    intro s
    induction s with
    | nil => exact ⟨rfl, by decide⟩
    | cons a r ih =>
      obtain ⟨ih1, ih2⟩ := ih
      have hi : Lib.index (a :: r) [35] = if ([35] : Str).isPrefixOf (a :: r) then 0 else if Lib.index r [35] == -1 then -1 else Lib.index r [35] + 1 := by
        simp only [Lib.index]
      have hp : ([35] : Str).isPrefixOf (a :: r) = (a == 35) := by simp [List.isPrefixOf, Bool.beq_comm]
      rw [hi, hp, List.contains_cons]
      by_cases ha : a = 35
      · subst ha; simp
      · have ha' : (a == 35) = false := by simpa using ha
        have ha2 : ((35 : UInt8) == a) = false := by simpa using fun e => ha (Eq.symm e)
        rw [ha', ha2]
        simp only [Bool.false_eq_true, if_false, Bool.false_or, ← ih1]
        by_cases hr : Lib.index r [35] = -1
        · rw [hr]; exact ⟨rfl, by decide⟩
        · have : (Lib.index r [35] == -1) = false := by simpa using hr
          rw [this]
          simp only [Bool.false_eq_true, if_false]
          refine ⟨?_, by omega⟩
          rw [decide_eq_decide]; omega
  exact (key s).1
theorem clean_len {s : Str} (h : clean s = true) : 1 ≤ s.length ∧ s.length ≤ 256 := by
  simp only [clean, Bool.and_eq_true, decide_eq_true_eq] at h; exact h.1.2
theorem hasPrefix8 (s : Str) : strings_HasPrefix s httpsS = some ((s.take 8 == httpsS)) := by
  unfold strings_HasPrefix internal_stringslite_HasPrefix
  have e8 : httpsS.length = 8 := rfl
  rw [e8]
  by_cases h : 8 ≤ s.length
  · have h1 : inc 0 ((8 : Nat) : Int) s.length = true := by rw [inc_0]; simp; omega
    simp only [show ((s.length : Int) ≥ ((8 : Nat) : Int)) by omega, decide_true, if_true, h1, chk_true, cut_0, Option.bind_some]
  · have h0 : decide ((s.length : Int) ≥ ((8 : Nat) : Int)) = false := by simp; omega
    have h2 : (s.take 8 == httpsS) = false := by
      simp only [beq_eq_false_iff_ne]; intro e
      have := congrArg List.length e
      simp [e8] at this; omega
    simp only [h0, Bool.false_eq_true, if_false, Option.bind_some, h2]
theorem client_address_eq (s : Str) (hs : fits s) : client_address s = some (adr s) := by
  unfold client_address adr
  rw [fold_Clean_eq s hs, Option.bind_some]
  cases hc : clean s with
  | false => rfl
  | true =>
    have hl := clean_len hc
    have hp := hasPrefix8 s
    unfold httpsS at hp
    simp only [if_true, hp, Option.bind_some, lib_Contains, contains35]
    rw [chk_t (by simp; omega)]
    simp only [Bool.true_and, Option.bind_some]
    show ((if (s.take 8 == httpsS) = true then some (!s.contains 35) else some false).bind fun z18 => some z18) = some ((s.take 8 == httpsS) && !s.contains 35)
    cases (s.take 8 == httpsS) <;> rfl
theorem refAddr_loop (s : Str) (hs : fits s) : ∀ (r : Str) (i n : Nat), s.drop i = r → i ≤ s.length → r.length < n → (s.take i).contains 35 = false → ref36_address_L1 n s (i : Int) = some (adr s) := by
  unfold fits at hs
  intro r
  induction r with
  | nil =>
    intro i n hd hi hn ht
    obtain ⟨n, rfl⟩ : ∃ k, n = k + 1 := ⟨n - 1, by simp at hn; omega⟩
    have := drop_nil hd
    rw [List.take_of_length_le (by omega)] at ht
    simp only [ref36_address_L1, show ¬ ((i : Int) < s.length) by omega, decide_false, Bool.false_eq_true, if_false, ref01_Clean_eq s hs, Option.bind_some, adr, ht, Bool.not_false, Bool.and_true]
    cases hc : clean s with
    | false => rfl
    | true =>
      by_cases h8 : 8 ≤ s.length
      · have h1 : inc 0 8 s.length = true := by have := inc_0 (j := 8) (n := s.length); rw [show ((8 : Nat) : Int) = 8 from rfl] at this; rw [this]; simpa using h8
        have hcut : cut s 0 8 = s.take 8 := cut_0 s 8
        simp only [show ((s.length : Int) ≥ 8) by omega, decide_true, Bool.and_self, if_true, h1, chk_true, Option.bind_some, hcut, Bool.true_and]
        show some (s.take 8 == httpsS) = _
        rfl
      · have h2 : (s.take 8 == httpsS) = false := by
          simp only [beq_eq_false_iff_ne]; intro e
          have := congrArg List.length e
          simp [httpsS] at this; omega
        have h3 : decide ((s.length : Int) ≥ 8) = false := by simp; omega
        rw [h3]
        simp [h2]
  | cons u r ih =>
    intro i n hd hi hn ht
    obtain ⟨n, rfl⟩ : ∃ k, n = k + 1 := ⟨n - 1, by simp at hn; omega⟩
    obtain ⟨h1, h2, h3⟩ := drop_more hd
    have hlt := drop_lt hd
    simp only [ref36_address_L1, show ((i : Int) < s.length) by omega, decide_true, if_true, inb_n, h1, chk_true, byteAt_some h2, w64n (show i < 9223372036854775807 by omega)]
    by_cases hu : u = 35
    · subst hu
      have hm : s.contains 35 = true := by rw [List.contains_iff_mem]; exact List.mem_of_getElem? h2
      unfold adr
      rw [hm]; simp
    · have hz : ((u.toNat : Int) == 35) = false := by
        have := u8_eq u 35 (by decide)
        rw [show ((35 : Nat) : Int) = 35 from rfl] at this
        rw [this]; simpa using hu
      rw [if_neg (by rw [hz]; simp)]
      refine ih (i + 1) n h3 (by omega) (by simp at hn; omega) ?_
      rw [take_more hd, List.contains_eq_any_beq, List.any_append, ← List.contains_eq_any_beq, ht]
      simpa using fun e => hu (Eq.symm e)
theorem ref36_address_eq (s : Str) (hs : fits s) : ref36_address s = some (adr s) := refAddr_loop s hs s 0 fuel rfl (by omega) (fuel_pos hs) (by simp)
/-! ### redirects -/
def rdL : List Str → List Str → Int
  | _, [] => 0
  | p, x :: r => if !adr x then 4 else if p.contains x then 7 else rdL (p ++ [x]) r
def rdS (l : List Str) : Int := if (l.length : Int) == 0 then 6 else if decide ((l.length : Int) > 8) then 3 else rdL [] l
theorem first_loop (l : List Str) (hl : fitsAll l) (hf : fits l) : ∀ (r : List Str) (i n : Nat), l.drop i = r → i ≤ l.length → r.length < n → client_first_string__redirects_1_L1 n l l (l.length : Int) (i : Int) = some (rdL (l.take i) r) := by
  unfold fits at hf
  intro r
  induction r with
  | nil =>
    intro i n hd hi hn
    obtain ⟨n, rfl⟩ : ∃ k, n = k + 1 := ⟨n - 1, by simp at hn; omega⟩
    have := drop_nil hd
    simp only [client_first_string__redirects_1_L1, show ¬ ((i : Int) < l.length) by omega, decide_false, Bool.false_eq_true, if_false, rdL]
  | cons x r ih =>
    intro i n hd hi hn
    obtain ⟨n, rfl⟩ : ∃ k, n = k + 1 := ⟨n - 1, by simp at hn; omega⟩
    obtain ⟨h1, h2, h3⟩ := drop_more hd
    have hlt := drop_lt hd
    have hx : fits x := fitsAll_at hl h2
    have hi2 : inc 0 (i : Int) l.length = true := by rw [inc_0]; simp; omega
    simp only [client_first_string__redirects_1_L1, show ((i : Int) < l.length) by omega, decide_true, if_true, idx_n, h2, Option.bind_some, client_redirects_1, client_address_eq x hx, hi2, chk_true, cut_0,
      slices_Contains_eq (l.take i) x (by unfold fits; simp; omega), w64n (show i < 9223372036854775807 by omega), rdL]
    cases ha : adr x with
    | false => rfl
    | true =>
      cases hc : (l.take i).contains x with
      | true => rfl
      | false =>
        simp only [Bool.not_true, Bool.false_eq_true, if_false]
        rw [← take_more hd]
        exact ih (i + 1) n h3 (by omega) (by simp at hn; omega)
theorem client_redirects_eq (l : List Str) (hl : fitsAll l) (hf : fits l) : client_redirects l = some (rdS l) := by
  unfold client_redirects rdS client_first_string__redirects_1
  have := first_loop l hl hf l 0 fuel rfl (by omega) (fuel_pos hf)
  rw [show ((0 : Nat) : Int) = 0 from rfl] at this
  rw [this, Option.bind_some, List.take_zero]
  split
  · rfl
  · split <;> rfl
/-! ### Check -/
def orI (a b : Int) : Int := if a != 0 then a else b
theorem orI_some {a b : Int} {X : Option Int} (h : X = some b) : (if (a != 0) = true then some a else X) = some (orI a b) := by
  unfold orI; subst h; split <;> rfl
def lgC (lo : Str) : Int := if !(lo == []) && !adr lo then 4 else 0
theorem lgC_some (lo : Str) : ((if (!(lo == [])) = true then some (!adr lo) else some false : Option Bool).bind fun z58 => if z58 = true then (some 4 : Option Int) else some 0) = some (lgC lo) := by
  unfold lgC; cases (lo == []) <;> cases adr lo <;> rfl
def fitC (c : api_Client) : Bool := if c.Kind == 2 then vldS c.Secret else api_Verifier.eqb c.Secret zvS
def ckC (c : api_Client) : Int :=
  if !word c.ID || !word c.Tenant then 5 else if (c.Kind != 1) && (c.Kind != 2) then 2 else if !fitC c then 4 else orI (rdS c.Redirects) (orI (ck c.Scopes) (lgC c.Logout))
structure fitsC (c : api_Client) : Prop where
  id : fits c.ID
  tenant : fits c.Tenant
  salt : fits c.Secret.Salt
  logout : fits c.Logout
  reds : fitsAll c.Redirects
  reds' : fits c.Redirects
  scs : fitsAll c.Scopes
theorem client_Check_eq (c : api_Client) (h : fitsC c) : client_Check c = some (ckC c) := by
  unfold client_Check ckC client_secretFits
  rw [fold_Word_eq _ h.id, Option.bind_some, fold_Word_eq _ h.tenant, secret_Valid_eq _ h.salt, client_redirects_eq _ h.reds h.reds', scope_Check_eq _ h.scs, client_address_eq _ h.logout]
  simp only [Option.bind_some]
  cases hw : word c.ID with
  | false => rfl
  | true =>
    cases hw2 : word c.Tenant with
    | false => rfl
    | true =>
      simp only [Bool.not_true, Bool.false_eq_true, if_false, Option.bind_some, Bool.or_false]
      cases hk : (c.Kind != 1) && (c.Kind != 2) with
      | true => rfl
      | false =>
        simp only [Bool.false_eq_true, if_false]
        have e : ((if (c.Kind == 2) = true then some (vldS c.Secret) else some (c.Secret.eqb { Salt := [], Rounds := 0, Hash := [] })) : Option Bool) = some (fitC c) := by
          unfold fitC zvS; split <;> rfl
        rw [e, Option.bind_some]
        cases hf : fitC c with
        | false => rfl
        | true => exact orI_some (orI_some (lgC_some _))
theorem ref36_contains_eq (l : List Str) (s : Str) (hf : fits l) : ref36_contains l s = some (l.contains s) := by
  unfold fits at hf
  have key : ∀ (r : List Str) (i n : Nat), l.drop i = r → i ≤ l.length → r.length < n → ref36_contains_L1 n l s (i : Int) = some (r.contains s) := by
    intro r
    induction r with
    | nil =>
      intro i n hd hi hn
      obtain ⟨n, rfl⟩ : ∃ k, n = k + 1 := ⟨n - 1, by simp at hn; omega⟩
      have := drop_nil hd
      simp only [ref36_contains_L1, show ¬ ((i : Int) < l.length) by omega, decide_false, Bool.false_eq_true, if_false]; rfl
    | cons x r ih =>
      intro i n hd hi hn
      obtain ⟨n, rfl⟩ : ∃ k, n = k + 1 := ⟨n - 1, by simp at hn; omega⟩
      obtain ⟨h1, h2, h3⟩ := drop_more hd
      have hlt := drop_lt hd
      simp only [ref36_contains_L1, show ((i : Int) < l.length) by omega, decide_true, if_true, idx_n, h2, Option.bind_some, w64n (show i < 9223372036854775807 by omega), ih (i + 1) n h3 (by omega) (by simp at hn; omega), List.contains_cons]
      rw [Bool.beq_comm]
      cases s == x <;> simp
  exact key l 0 fuel rfl (by omega) (fuel_pos hf)
theorem refCheck_loop (a : Str) (k : Int) (t s : Str) (ro : Int) (hs : Str) (l sc : List Str) (lo : Str) (hl : fitsAll l) (hf : fits l) (hsc : fitsAll sc) (hlo : fits lo) : ∀ (r : List Str) (i n : Nat), l.drop i = r → i ≤ l.length → r.length < n →
    ref36_Check_L1 n a k t s ro hs l sc lo (i : Int) = some (orI (rdL (l.take i) r) (orI (ck sc) (lgC lo))) := by
  unfold fits at hf
  intro r
  induction r with
  | nil =>
    intro i n hd hi hn
    obtain ⟨n, rfl⟩ : ∃ k, n = k + 1 := ⟨n - 1, by simp at hn; omega⟩
    have := drop_nil hd
    simp only [ref36_Check_L1, show ¬ ((i : Int) < l.length) by omega, decide_false, Bool.false_eq_true, if_false, rdL, ref29_Check_eq _ hsc, ref36_address_eq _ hlo, Option.bind_some]
    exact orI_some (lgC_some _)
  | cons x r ih =>
    intro i n hd hi hn
    obtain ⟨n, rfl⟩ : ∃ k, n = k + 1 := ⟨n - 1, by simp at hn; omega⟩
    obtain ⟨h1, h2, h3⟩ := drop_more hd
    have hlt := drop_lt hd
    have hx : fits x := fitsAll_at hl h2
    have hi2 : inc 0 (i : Int) l.length = true := by rw [inc_0]; simp; omega
    simp only [ref36_Check_L1, show ((i : Int) < l.length) by omega, decide_true, if_true, idx_n, h2, Option.bind_some, ref36_address_eq x hx, hi2, chk_true, cut_0,
      ref36_contains_eq (l.take i) x (by unfold fits; simp; omega), w64n (show i < 9223372036854775807 by omega), rdL]
    cases ha : adr x with
    | false => rfl
    | true =>
      cases hc : (l.take i).contains x with
      | true => rfl
      | false =>
        simp only [Bool.not_true, Bool.false_eq_true, if_false]
        rw [← take_more hd]
        exact ih (i + 1) n h3 (by omega) (by simp at hn; omega)
theorem ref36_Check_eq (c : api_Client) (h : fitsC c) : ref36_Check c = some (ckC c) := by
  unfold ref36_Check ckC rdS
  have hloop := refCheck_loop c.ID c.Kind c.Tenant c.Secret.Salt c.Secret.Rounds c.Secret.Hash c.Redirects c.Scopes c.Logout h.reds h.reds' h.scs h.logout c.Redirects 0 fuel rfl (by omega) (fuel_pos h.reds')
  rw [show ((0 : Nat) : Int) = 0 from rfl] at hloop
  rw [ref01_Word_eq _ h.id, Option.bind_some, ref01_Word_eq _ h.tenant, ref22_Valid_eq _ h.salt, hloop, List.take_zero]
  simp only [Option.bind_some]
  cases hw : word c.ID with
  | false => rfl
  | true =>
    cases hw2 : word c.Tenant with
    | false => rfl
    | true =>
      simp only [Bool.not_true, Bool.false_eq_true, if_false, Option.bind_some, Bool.or_false]
      cases hk : (c.Kind != 1) && (c.Kind != 2) with
      | true => rfl
      | false =>
        simp only [Bool.false_eq_true, if_false]
        have e : ∀ X : Option Int, ((if (c.Kind == 2) = true then some (!vldS c.Secret) else some false : Option Bool).bind fun z40 => if (z40 || ((c.Kind == 1) && (!(api_Verifier.eqb c.Secret (api_Verifier.mk ([]) 0 ([])))))) = true then (some 4 : Option Int) else X) =
            if (!fitC c) = true then some 4 else X := by
          intro X
          unfold fitC zvS
          by_cases h2 : c.Kind = 2
          · simp [h2]
          · have h1 : c.Kind = 1 := by
              simp only [Bool.and_eq_false_iff, bne_eq_false_iff_eq] at hk; omega
            simp [h1]
        rw [e]
        cases hf : fitC c with
        | false => rfl
        | true =>
          simp only [Bool.not_true, Bool.false_eq_true, if_false]
          cases h0 : ((c.Redirects.length : Int) == 0) with
          | true => rfl
          | false =>
            cases h8 : decide ((c.Redirects.length : Int) > 8) with
            | true => rfl
            | false => rfl
/-! ### gates -/
def shortL (l : List Str) : Prop := l.length ≤ 20 ∧ ∀ s ∈ l, s.length ≤ 300
theorem shortL.fa {l : List Str} (h : shortL l) : fitsAll l := fun s hs => by have := h.2 s hs; unfold fits; omega
theorem shortL.f {l : List Str} (h : shortL l) : fits l := by have := h.1; unfold fits; omega
theorem shortL.sm {l : List Str} (h : shortL l) : sm l := ⟨by have := h.1; omega, h.fa⟩
theorem short_gate (l : List Str) (hf : fits l) : law36_short l = some false ∨ (law36_short l = some true ∧ shortL l) := by
  unfold fits at hf
  have key : ∀ (r : List Str) (i n : Nat), l.drop i = r → i ≤ l.length → r.length < n → (∀ s ∈ l.take i, s.length ≤ 300) → law36_short_L1 n l (i : Int) = some false ∨ (law36_short_L1 n l (i : Int) = some true ∧ shortL l) := by
    intro r
    induction r with
    | nil =>
      intro i n hd hi hn ht
      obtain ⟨n, rfl⟩ : ∃ k, n = k + 1 := ⟨n - 1, by simp at hn; omega⟩
      have := drop_nil hd
      rw [List.take_of_length_le (by omega)] at ht
      simp only [law36_short_L1, show ¬ ((i : Int) < l.length) by omega, decide_false, Bool.false_eq_true, if_false]
      by_cases h20 : l.length ≤ 20
      · exact .inr ⟨by simp; omega, h20, ht⟩
      · exact .inl (by simp; omega)
    | cons x r ih =>
      intro i n hd hi hn ht
      obtain ⟨n, rfl⟩ : ∃ k, n = k + 1 := ⟨n - 1, by simp at hn; omega⟩
      obtain ⟨h1, h2, h3⟩ := drop_more hd
      have hlt := drop_lt hd
      simp only [law36_short_L1, show ((i : Int) < l.length) by omega, decide_true, if_true, idx_n, h2, Option.bind_some, w64n (show i < 9223372036854775807 by omega)]
      by_cases hx : x.length ≤ 300
      · rw [if_neg (by simp; omega)]
        refine ih (i + 1) n h3 (by omega) (by simp at hn; omega) fun s hs => ?_
        rw [take_more hd] at hs
        rcases List.mem_append.1 hs with hs | hs
        · exact ht s hs
        · simp at hs; subst hs; exact hx
      · exact .inl (by rw [if_pos (by simp; omega)])
  exact key l 0 fuel rfl (by omega) (fuel_pos hf) (by simp)
structure smallC (c : api_Client) : Prop where
  id : c.ID.length ≤ 300
  tenant : c.Tenant.length ≤ 300
  logout : c.Logout.length ≤ 300
  salt : c.Secret.Salt.length ≤ 300
  hash : c.Secret.Hash.length ≤ 300
  reds : shortL c.Redirects
  scs : shortL c.Scopes
theorem smallC.fits {c : api_Client} (h : smallC c) : fitsC c :=
  ⟨by have := h.id; unfold S.fits; omega, by have := h.tenant; unfold S.fits; omega, by have := h.salt; unfold S.fits; omega, by have := h.logout; unfold S.fits; omega, h.reds.fa, h.reds.f, h.scs.fa⟩
theorem small_gate (c : api_Client) (h1 : fits c.Redirects) (h2 : fits c.Scopes) : law36_small c = some false ∨ (law36_small c = some true ∧ smallC c) := by
  unfold law36_small
  cases hb : ((((decide ((c.ID.length : Int) ≤ 300)) && (decide ((c.Tenant.length : Int) ≤ 300))) && (decide ((c.Logout.length : Int) ≤ 300))) && (decide ((c.Secret.Salt.length : Int) ≤ 300))) && (decide ((c.Secret.Hash.length : Int) ≤ 300)) with
  | false => exact .inl rfl
  | true =>
    simp only [Bool.and_eq_true, decide_eq_true_eq] at hb
    rcases short_gate c.Redirects h1 with h | ⟨h, hr⟩
    · exact .inl (by rw [if_pos rfl, h]; rfl)
    · rcases short_gate c.Scopes h2 with h' | ⟨h', hs⟩
      · exact .inl (by rw [if_pos rfl, h, h']; rfl)
      · exact .inr ⟨by rw [if_pos rfl, h, h']; rfl, ⟨by omega, by omega, by omega, by omega, by omega, hr, hs⟩⟩
structure smallO (o : law36_Op) : Prop where
  client : smallC o.Client
  id : o.ID.length ≤ 300
  s : o.S.length ≤ 300
  scs : shortL o.Scopes
def opF (o : law36_Op) : Prop := (fits o.Client.Redirects ∧ fits o.Client.Scopes) ∧ fits o.Scopes
theorem few_gate (l : List law36_Op) (hf : fits l) (ho : ∀ o ∈ l, opF o) : law36_few l = some false ∨ (law36_few l = some true ∧ l.length ≤ 12 ∧ ∀ o ∈ l, smallO o) := by
  unfold fits at hf
  have key : ∀ (r : List law36_Op) (i n : Nat), l.drop i = r → i ≤ l.length → r.length < n → (∀ s ∈ l.take i, smallO s) → law36_few_L1 n l (i : Int) = some false ∨ (law36_few_L1 n l (i : Int) = some true ∧ l.length ≤ 12 ∧ ∀ o ∈ l, smallO o) := by
    intro r
    induction r with
    | nil =>
      intro i n hd hi hn ht
      obtain ⟨n, rfl⟩ : ∃ k, n = k + 1 := ⟨n - 1, by simp at hn; omega⟩
      have := drop_nil hd
      rw [List.take_of_length_le (by omega)] at ht
      simp only [law36_few_L1, show ¬ ((i : Int) < l.length) by omega, decide_false, Bool.false_eq_true, if_false]
      by_cases h20 : l.length ≤ 12
      · exact .inr ⟨by simp; omega, h20, ht⟩
      · exact .inl (by simp; omega)
    | cons x r ih =>
      intro i n hd hi hn ht
      obtain ⟨n, rfl⟩ : ∃ k, n = k + 1 := ⟨n - 1, by simp at hn; omega⟩
      obtain ⟨h1, h2, h3⟩ := drop_more hd
      have hlt := drop_lt hd
      obtain ⟨⟨g1, g2⟩, g3⟩ := ho x (List.mem_of_getElem? h2)
      simp only [law36_few_L1, show ((i : Int) < l.length) by omega, decide_true, if_true, idx_n, h2, Option.bind_some, w64n (show i < 9223372036854775807 by omega)]
      rcases small_gate x.Client g1 g2 with h | ⟨h, hc⟩
      · exact .inl (by rw [h]; rfl)
      · rw [h]
        simp only [Option.bind_some, Bool.not_true, Bool.false_eq_true, if_false]
        by_cases hid : x.ID.length ≤ 300
        · rw [show decide ((x.ID.length : Int) > 300) = false by simp; omega]
          simp only [Bool.false_eq_true, if_false, Option.bind_some]
          by_cases hs : x.S.length ≤ 300
          · rw [show decide ((x.S.length : Int) > 300) = false by simp; omega]
            simp only [Bool.false_eq_true, if_false, Option.bind_some]
            rcases short_gate x.Scopes g3 with h' | ⟨h', hsc⟩
            · exact .inl (by rw [h']; rfl)
            · rw [h']
              simp only [Option.bind_some, Bool.not_true, Bool.false_eq_true, if_false]
              refine ih (i + 1) n h3 (by omega) (by simp at hn; omega) fun o hoo => ?_
              rw [take_more hd] at hoo
              rcases List.mem_append.1 hoo with hoo | hoo
              · exact ht o hoo
              · simp at hoo; subst hoo; exact ⟨hc, hid, hs, hsc⟩
          · exact .inl (by rw [show decide ((x.S.length : Int) > 300) = true by simp; omega]; rfl)
        · exact .inl (by rw [show decide ((x.ID.length : Int) > 300) = true by simp; omega]; rfl)
  exact key l 0 fuel rfl (by omega) (fuel_pos hf) (by simp)
/-! ### the registry -/
abbrev CL := List (Str × api_Client)
def zc : api_Client := ⟨[], 0, [], ⟨[], 0, []⟩, [], [], []⟩
structure CInv (l : CL) (N : Nat) : Prop where
  nd : nodupK l
  len : l.length ≤ N
  good : ∀ p ∈ l, p.2.ID = p.1 ∧ ckC p.2 = 0 ∧ smallC p.2
theorem cinv_nil : CInv [] 0 := ⟨nodupK_nil, by simp, (fun p h => by cases h)⟩
theorem CInv.mono {l : CL} {N M : Nat} (h : CInv l N) (hm : N ≤ M) : CInv l M := ⟨h.nd, Nat.le_trans h.len hm, h.good⟩
theorem CInv.at {l : CL} {N : Nat} (h : CInv l N) {id : Str} {c : api_Client} (hc : mfind id l = some c) : c.ID = id ∧ ckC c = 0 ∧ smallC c := h.good _ (mfind_mem hc)
theorem opt_cases {α : Type} (o : Option α) : o = none ∨ ∃ r, o = some r := by cases o <;> simp
theorem mlen_some {K V : Type} (l : List (K × V)) : mlen (some l) = (l.length : Int) := by unfold mlen; simp
theorem clone_eq {l : List Str} (h : l.length ≤ 1000) : lib_Clone l = some l := by unfold lib_Clone; rw [chk_t (by simp; omega)]
theorem client_own_eq (c : api_Client) (h1 : c.Redirects.length ≤ 1000) (h2 : c.Scopes.length ≤ 1000) : client_own c = some c := by
  unfold client_own client_own_B1
  rw [clone_eq h1, Option.bind_some, clone_eq h2, Option.bind_some]
theorem ref36_copied_eq (c : api_Client) (h1 : c.Redirects.length ≤ 1000) (h2 : c.Scopes.length ≤ 1000) : ref36_copied c = some c := by
  unfold ref36_copied
  rw [chk_t (by simp [fitL]; omega), chk_t (by simp [fitL]; omega)]
  rfl
def findC (l : CL) (id : Str) : api_Client × Int := match mfind id l with | none => (zc, 6) | some c => (c, 0)
theorem ready_eq (l : CL) : client_Clients_ready ⟨some l⟩ = some true := rfl
theorem find_eq (l : CL) (id : Str) : client_Clients_find ⟨some l⟩ id = some (findC l id) := by
  unfold client_Clients_find findC mgetD mhas
  simp only [ready_eq, Option.bind_some, Bool.not_true, Bool.false_eq_true, if_false, Option.getD_some]
  rcases opt_cases (mfind id l) with h | ⟨c, h⟩
  · simp only [h]; rfl
  · simp only [h]; rfl
def redR (l : CL) (id a : Str) : Int := match mfind id l with | none => 6 | some c => if c.Redirects.contains a then 0 else 11
def accS (c : api_Client) (s : Str) : Bool := if c.Kind == 1 then s == [] else chkS c.Secret s
def autR (l : CL) (id s : Str) : Int := match mfind id l with | none => 6 | some c => if accS c s then 0 else 11
def alwR (l : CL) (id : Str) (sc : List Str) : Int := match mfind id l with | none => 6 | some c => if within sc c.Scopes then 0 else 19
def getR (l : CL) (id : Str) : api_Client × Bool := match mfind id l with | none => (zc, false) | some c => (c, true)
theorem redirect_eq {l : CL} {N : Nat} (h : CInv l N) (id a : Str) : client_Clients_Redirect ⟨some l⟩ id a = some (redR l id a) := by
  unfold client_Clients_Redirect redR
  rw [find_eq, Option.bind_some]
  unfold findC
  rcases opt_cases (mfind id l) with hm | ⟨c, hm⟩
  · simp only [hm]; rfl
  · have hc := (h.at hm).2.2
    simp only [hm, beq_self_eq_true, if_true, slices_Contains_eq _ _ hc.reds.f, Option.bind_some]
    cases c.Redirects.contains a <;> rfl
theorem auth_eq {l : CL} {N : Nat} (h : CInv l N) (id s : Str) (hs : fits s) : client_Clients_Authenticate ⟨some l⟩ id s = some (autR l id s) := by
  unfold client_Clients_Authenticate autR
  rw [find_eq, Option.bind_some]
  unfold findC
  rcases opt_cases (mfind id l) with hm | ⟨c, hm⟩
  · simp only [hm]; rfl
  · have hc := (h.at hm).2.2
    have ha : client_accepts c s = some (accS c s) := by
      unfold client_accepts accS
      rw [secret_Check_eq _ _ hc.fits.salt hs]
      split <;> rfl
    simp only [hm, beq_self_eq_true, if_true, ha, Option.bind_some]
    cases accS c s <;> rfl
theorem allowed_eq {l : CL} {N : Nat} (h : CInv l N) (id : Str) (sc : List Str) (hs : sm sc) : client_Clients_Allowed ⟨some l⟩ id sc = some (alwR l id sc) := by
  unfold client_Clients_Allowed alwR
  rw [find_eq, Option.bind_some]
  unfold findC
  rcases opt_cases (mfind id l) with hm | ⟨c, hm⟩
  · simp only [hm]; rfl
  · have hc := (h.at hm).2.2
    simp only [hm, beq_self_eq_true, if_true, scope_Within_eq _ _ hs hc.scs.sm, Option.bind_some]
    cases within sc c.Scopes <;> rfl
theorem get_eq {l : CL} {N : Nat} (h : CInv l N) (id : Str) : client_Clients_Get ⟨some l⟩ id = some (getR l id) := by
  unfold client_Clients_Get getR
  rw [find_eq, Option.bind_some]
  unfold findC
  rcases opt_cases (mfind id l) with hm | ⟨c, hm⟩
  · simp only [hm]; rfl
  · have hc := (h.at hm).2.2
    have h1 := hc.reds.1
    have h2 := hc.scs.1
    simp only [hm, client_own_eq c (by omega) (by omega), Option.bind_some]; rfl
theorem remove_eq (l : CL) (id : Str) : client_Clients_Remove ⟨some l⟩ id = some ((mfind id l).isSome, ⟨some (mdelL id l)⟩) := by
  unfold client_Clients_Remove client_Clients_Remove_B1
  rw [find_eq, Option.bind_some]
  unfold findC
  rcases opt_cases (mfind id l) with hm | ⟨c, hm⟩
  · simp only [hm, del_none hm]; rfl
  · simp only [hm]; rfl
theorem key_len {l : CL} {N : Nat} (h : CInv l N) : ∀ p ∈ l, p.1.length ≤ 300 := fun p hp => by
  obtain ⟨h1, _, h3⟩ := h.good p hp
  rw [← h1]; exact h3.id
theorem list_eq {l : CL} {N : Nat} (h : CInv l N) (hN : N ≤ 300) : client_Clients_List ⟨some l⟩ = some (sortS (l.map Prod.fst)) := by
  unfold client_Clients_List
  simp only [ready_eq, Option.bind_some, Bool.not_true, Bool.false_eq_true, if_false, lib_SortedKeys, Option.getD_some]
  have h1 := h.len
  have h2 : (l.all fun p => decide (p.1.length ≤ maxLen)) = true := List.all_eq_true.2 fun p hp => by
    have := key_len h p hp
    exact decide_eq_true (Nat.le_trans this (by decide))
  rw [h2, chk_t (by simp; omega)]
  rfl
def regL (l : CL) (c : api_Client) : CL := if ckC c = 0 then mputL c.ID c l else l
theorem register_eq {l : CL} {N : Nat} (h : CInv l N) (hN : N < 256) (c : api_Client) (hc : smallC c) : client_Clients_Register ⟨some l⟩ c = some (ckC c, ⟨some (regL l c)⟩) := by
  unfold client_Clients_Register regL
  have hl := h.len
  have h1 := hc.reds.1
  have h2 := hc.scs.1
  simp only [ready_eq, Option.bind_some, Bool.not_true, Bool.false_eq_true, if_false, client_Check_eq c hc.fits, mlen_some]
  by_cases hk : ckC c = 0
  · rw [hk]
    have h3 : (!(mhas (some l) c.ID) && decide ((l.length : Int) ≥ 256)) = false := by
      rw [Bool.and_eq_false_iff]; right; simp; omega
    simp only [bne_self_eq_false, Bool.false_eq_true, if_false, h3, client_own_eq c (by omega) (by omega), Option.bind_some, Option.isSome_some, chk_true, if_true]
    rfl
  · rw [if_pos (by simpa using hk), if_neg hk]
theorem cinv_reg {l : CL} {N : Nat} (h : CInv l N) (c : api_Client) (hc : smallC c) : CInv (regL l c) (N + 1) := by
  unfold regL
  by_cases hk : ckC c = 0
  · rw [if_pos hk]
    refine ⟨nodupK_put h.nd, ?_, fun p hp => ?_⟩
    · rw [len_put]; have := h.len; split <;> omega
    · rcases mem_put hp with rfl | hp
      · exact ⟨rfl, hk, hc⟩
      · exact h.good p hp
  · rw [if_neg hk]; exact h.mono (by omega)
theorem cinv_del {l : CL} {N : Nat} (h : CInv l N) (id : Str) : CInv (mdelL id l) N :=
  ⟨nodupK_del h.nd, by have := len_del (k := id) h.nd; have := h.len; omega, fun p hp => h.good p (mem_del hp)⟩
theorem lists_same (l : List Str) (h : fits l) : ref07_Lists l l = some true := by rw [ref07_Lists_eq l l h]; simp
theorem eqb_self (v : api_Verifier) : api_Verifier.eqb v v = true := by simp [api_Verifier.eqb]
theorem same_self (c : api_Client) (h1 : fits c.Redirects) (h2 : fits c.Scopes) : ref36_Same c c = some true := by
  unfold ref36_Same
  simp [eqb_self, lists_same _ h1, lists_same _ h2]
theorem mem_keys {l : CL} {N : Nat} (h : CInv l N) (x : Str) : (sortS (l.map Prod.fst)).contains x = (mfind x l).isSome := by
  rw [Bool.eq_iff_iff, List.contains_iff_mem, (sortS_perm _).mem_iff, List.mem_map, Option.isSome_iff_exists]
  constructor
  · rintro ⟨p, hp, rfl⟩; exact ⟨p.2, mfind_of_mem h.nd hp⟩
  · rintro ⟨c, hc⟩; exact ⟨(x, c), mfind_mem hc, rfl⟩
theorem getR_small {l : CL} {N : Nat} (h : CInv l N) (id : Str) : fits (getR l id).1.Redirects ∧ fits (getR l id).1.Scopes := by
  unfold getR
  rcases opt_cases (mfind id l) with hm | ⟨c, hm⟩
  · simp only [hm]; exact ⟨by simp [fits, zc], by simp [fits, zc]⟩
  · simp only [hm]; exact ⟨(h.at hm).2.2.reds.f, (h.at hm).2.2.scs.f⟩
end Go.KW.S
