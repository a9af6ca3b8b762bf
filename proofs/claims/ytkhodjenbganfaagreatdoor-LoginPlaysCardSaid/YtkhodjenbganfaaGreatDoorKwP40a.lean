/- Own work: a part of the proofs of this seat. -/
import Derived.Test.YtkhodjenbganfaaGreatDoorKwPlain
import Derived.Test.YtkhodjenbganfaaGreatDoorKwMapP
import Derived.Test.YtkhodjenbganfaaGreatDoorKwTS
import Derived.KernelRfl
import Derived.Lib.IndexMore
import Derived.Lib.CountLaws
import Derived.Laws.RangeString
import Derived.Laws.RangeAny
set_option linter.unusedVariables false
set_option linter.unusedSimpArgs false
namespace Go.KW.S
open Go Go.KW
def isW (c : Int) : Bool := (((decide (c ≥ 65) && decide (c ≤ 90)) || (decide (c ≥ 97) && decide (c ≤ 122))) || (decide (c ≥ 48) && decide (c ≤ 57))) || c == 45 || c == 95 || c == 46 || c == 58
def word (s : Str) : Bool := s.all (fun u => isW u.toNat) && (decide (1 ≤ s.length) && decide (s.length ≤ 64))

theorem fold_Word_1_eq (c : Int) : fold_Word_1 c = some (isW c) := by
 simp only [fold_Word_1, fold_letter, fold_upper, fold_digit, isW, Option.bind_some]
 cases (decide (c ≥ 65) && decide (c ≤ 90)) <;> cases (decide (c ≥ 97) && decide (c ≤ 122)) <;> simp
theorem fold_made_eq (s : Str) (hs : fits s) : fold_made__Word_1 s = some (word s) := by
 have key : ∀ (r : Str) (i n : Nat), s.drop i = r → i ≤ s.length → r.length < n →
   fold_made__Word_1_L1 n s (s.length : Int) (i : Int) = some (r.all (fun u => isW u.toNat) && (decide (1 ≤ s.length) && decide (s.length ≤ 64))) := by
  intro r
  induction r with
  | nil =>
   intro i n hd hi hn
   obtain ⟨n, rfl⟩ : ∃ k, n = k + 1 := ⟨n - 1, by simp at hn; omega⟩
   have := drop_nil hd
   simp only [fold_made__Word_1_L1, show ¬ ((i : Int) < s.length) by omega, decide_false, Bool.false_eq_true, if_false, List.all_nil, Bool.true_and, Option.some.injEq]
   rw [Bool.eq_iff_iff]; cases s <;> simp <;> omega
  | cons u r ih =>
   intro i n hd hi hn
   obtain ⟨n, rfl⟩ : ∃ k, n = k + 1 := ⟨n - 1, by simp at hn; omega⟩
   obtain ⟨h1, h2, h3⟩ := drop_more hd
   have hlt := drop_lt hd
   have := hs; unfold fits at this
   simp only [fold_made__Word_1_L1, show ((i : Int) < s.length) by omega, decide_true, if_true, inb_n, h1, chk_true, byteAt_some h2, fold_Word_1_eq, Option.bind_some, w64n (show i < 9223372036854775807 by omega), List.all_cons]
   cases isW u.toNat with
   | false => simp
   | true => simpa using ih (i + 1) n h3 (by omega) (by simp at hn; omega)
 exact key s 0 fuel rfl (by omega) (fuel_pos hs)
theorem fold_Word_eq (s : Str) (hs : fits s) : fold_Word s = some (word s) := by
 simp [fold_Word, fold_made_eq s hs]

theorem ref01_Word_eq (s : Str) (hs : fits s) : ref01_Word s = some (word s) := by
 have key : ∀ (r : Str) (i n : Nat), s.drop i = r → i ≤ s.length → r.length < n →
   ref01_Word_L1 n s (i : Int) = some (r.all (fun u => isW u.toNat) && (decide (1 ≤ s.length) && decide (s.length ≤ 64))) := by
  intro r
  induction r with
  | nil =>
   intro i n hd hi hn
   obtain ⟨n, rfl⟩ : ∃ k, n = k + 1 := ⟨n - 1, by simp at hn; omega⟩
   have := drop_nil hd
   simp only [ref01_Word_L1, show ¬ ((i : Int) < s.length) by omega, decide_false, Bool.false_eq_true, if_false, List.all_nil, Bool.true_and, Option.some.injEq]
   rw [Bool.eq_iff_iff]; simp; omega
  | cons u r ih =>
   intro i n hd hi hn
   obtain ⟨n, rfl⟩ : ∃ k, n = k + 1 := ⟨n - 1, by simp at hn; omega⟩
   obtain ⟨h1, h2, h3⟩ := drop_more hd
   have hlt := drop_lt hd
   have := hs; unfold fits at this
   have ih' := ih (i + 1) n h3 (by omega) (by simp at hn; omega)
   have e : isW u.toNat = ((((((decide ((u.toNat : Int) ≥ 65) && decide ((u.toNat : Int) ≤ 90)) || (decide ((u.toNat : Int) ≥ 97) && decide ((u.toNat : Int) ≤ 122))) || (decide ((u.toNat : Int) ≥ 48) && decide ((u.toNat : Int) ≤ 57))) || (u.toNat : Int) == 45) || (u.toNat : Int) == 95) || (u.toNat : Int) == 46 || (u.toNat : Int) == 58) := by
    simp [isW, Bool.or_assoc]
   simp only [ref01_Word_L1, show ((i : Int) < s.length) by omega, decide_true, if_true, inb_n, h1, chk_true, byteAt_some h2, ref01_letter, ref01_digit, Option.bind_some, w64n (show i < 9223372036854775807 by omega), List.all_cons, ih', e, bne]
   generalize (r.all fun u => isW u.toNat) = q
   generalize (decide ((u.toNat : Int) ≥ 97) && decide ((u.toNat : Int) ≤ 122)) = a
   generalize (decide ((u.toNat : Int) ≥ 65) && decide ((u.toNat : Int) ≤ 90)) = b
   generalize (decide ((u.toNat : Int) ≥ 48) && decide ((u.toNat : Int) ≤ 57)) = c
   generalize ((u.toNat : Int) == 45) = d
   generalize ((u.toNat : Int) == 95) = e1
   generalize ((u.toNat : Int) == 46) = f
   generalize ((u.toNat : Int) == 58) = g
   cases a <;> cases b <;> cases c <;> cases d <;> cases e1 <;> cases f <;> cases g <;> simp
 exact key s 0 fuel rfl (by omega) (fuel_pos hs)
def prt (u : UInt8) : Bool := decide (32 ≤ u.toNat) && decide (u.toNat ≤ 126)
def clean (s : Str) : Bool := s.all prt && (decide (1 ≤ s.length) && decide (s.length ≤ 256)) && (!(s.head? == some 32) && !(s.getLast? == some 32))
theorem dw_len (p : UInt8 → Bool) (l : Str) : (l.dropWhile p).length ≤ l.length := (List.dropWhile_suffix p).length_le
theorem trimB_eq (s : Str) : ((Lib.trimB s 32 == s) = (!(s.head? == some 32) && !(s.getLast? == some 32))) ∨ s = [] := by
 cases s with
 | nil => exact .inr rfl
 | cons a r =>
  refine .inl ?_
  rw [Bool.eq_iff_iff]
  simp only [beq_iff_eq, Bool.and_eq_true, Bool.not_eq_true', beq_eq_false_iff_ne, ne_eq]
  have hr : ∀ l : Str, (Lib.trimRightB l 32).length ≤ l.length := fun l => by
   unfold Lib.trimRightB
   rw [List.length_reverse]
   exact Nat.le_trans (dw_len _ _) (by simp)
  have hl : ∀ l : Str, (Lib.trimLeftB l 32).length ≤ l.length := fun l => dw_len _ _
  constructor
  ·intro h
   have h1 : (Lib.trimRightB (a :: r) 32).length = (a :: r).length := by
    have e := congrArg List.length h
    unfold Lib.trimB at e
    have := hr (a :: r); have := hl (Lib.trimRightB (a :: r) 32)
    omega
   have h2 : Lib.trimRightB (a :: r) 32 = a :: r := by
    unfold Lib.trimRightB at h1 ⊢
    rw [List.length_reverse] at h1
    have hs := List.dropWhile_suffix (fun x : UInt8 => x == 32) (l := (a :: r).reverse)
    have := hs.eq_of_length (by rw [h1]; simp)
    rw [this, List.reverse_reverse]
   unfold Lib.trimB at h
   rw [h2] at h
   refine ⟨fun e => ?_, fun e => ?_⟩
   ·simp at e
    subst e
    unfold Lib.trimLeftB at h
    have e2 := congrArg List.length h
    simp only [List.dropWhile_cons, beq_self_eq_true, if_true] at e2
    have := dw_len (fun x : UInt8 => x == 32) r
    simp at e2; omega
   ·unfold Lib.trimRightB at h2
    have e3 : (a :: r).reverse.dropWhile (fun x => x == 32) = (a :: r).reverse := by rw [← List.reverse_reverse ((a :: r).reverse.dropWhile fun x => x == 32), h2]
    rw [List.getLast?_eq_head?_reverse] at e
    cases hrv : (a :: r).reverse with
    | nil => simp at hrv
    | cons b q =>
     rw [hrv] at e e3
     simp at e
     subst e
     have e2 := congrArg List.length e3
     simp only [List.dropWhile_cons, beq_self_eq_true, if_true] at e2
     have := dw_len (fun x : UInt8 => x == 32) q
     simp at e2; omega
  ·rintro ⟨h1, h2⟩
   have e1 : Lib.trimRightB (a :: r) 32 = a :: r := by
    unfold Lib.trimRightB
    rw [List.getLast?_eq_head?_reverse] at h2
    cases hrv : (a :: r).reverse with
    | nil => simp at hrv
    | cons b q =>
     rw [hrv] at h2
     have hb : (b == 32) = false := by simpa using h2
     rw [List.dropWhile_cons, hb]
     simp only [Bool.false_eq_true, if_false]
     rw [← hrv, List.reverse_reverse]
   unfold Lib.trimB
   rw [e1]
   have ha : (a == 32) = false := by simpa using h1
   simp [Lib.trimLeftB, List.dropWhile_cons, ha]
theorem sdec_low {s : Str} {p : Nat} {u : UInt8} (h : s[p]? = some u) (hu : u.toNat < 128) : sdec s p = ((u.toNat : Int), 1) := by
 obtain ⟨h1, h2⟩ := List.getElem?_eq_some_iff.1 h
 have hs : p < (⟨s.toArray⟩ : ByteArray).size := by rw [str_size]; exact h1
 have hget : (⟨s.toArray⟩ : ByteArray)[p]'hs = u := by rw [← h2]; rfl
 have := decode_ascii ⟨s.toArray⟩ p hs (by rw [hget]; exact hu)
 unfold sdec
 rw [this, hget]
theorem sdec_high {s : Str} {p : Nat} {u : UInt8} (h : s[p]? = some u) (hu : 128 ≤ u.toNat) : 128 ≤ (sdec s p).1 := by
 obtain ⟨h1, h2⟩ := List.getElem?_eq_some_iff.1 h
 have hs : p < (⟨s.toArray⟩ : ByteArray).size := by rw [str_size]; exact h1
 have hget : (⟨s.toArray⟩ : ByteArray)[p]'hs = u := by rw [← h2]; rfl
 have := (decode_high ⟨s.toArray⟩ p hs (by rw [hget]; exact hu)).1
 unfold sdec
 show (128 : Int) ≤ (((Utf8.decode ⟨s.toArray⟩ p).1 : Nat) : Int)
 omega
theorem fold_Trim_eq (s : Str) (hs : fits s) : fold_Trim s = some (Lib.trimB s 32) := by
 unfold fits at hs
 simp [fold_Trim, lib_Trim, chk, show s.length ≤ 9223372036854775807 by omega]
theorem fold_Clean_eq (s : Str) (hs : fits s) : fold_Clean s = some (clean s) := by
 have fin : Option.bind (if (!(s == ([] : Str))) && (decide ((s.length : Int) ≤ 256)) then (fold_Trim s).bind fun y33 => some (y33 == s) else some false) (fun z28 => some z28) =
   some ((decide (1 ≤ s.length) && decide (s.length ≤ 256)) && (!(s.head? == some 32) && !(s.getLast? == some 32))) := by
  rw [fold_Trim_eq s hs]
  rcases trimB_eq s with h | h
  ·simp only [Option.bind_some, h]
   cases s with
   | nil => simp
   | cons a r =>
    have e1 : (!(a :: r == ([] : Str))) = true := rfl
    have e2 : decide ((((a :: r).length : Nat) : Int) ≤ 256) = decide ((a :: r).length ≤ 256) := by rw [decide_eq_decide]; omega
    have e3 : decide (1 ≤ (a :: r).length) = true := by simp
    rw [e1, e2, e3]
    cases decide ((a :: r).length ≤ 256) <;> simp
  ·subst h; simp
 have key : ∀ (r : Str) (i n : Nat), s.drop i = r → i ≤ s.length → r.length < n →
   fold_Clean_L1 n s s i = some (r.all prt && ((decide (1 ≤ s.length) && decide (s.length ≤ 256)) && (!(s.head? == some 32) && !(s.getLast? == some 32)))) := by
  intro r
  induction r with
  | nil =>
   intro i n hd hi hn
   obtain ⟨n, rfl⟩ : ∃ k, n = k + 1 := ⟨n - 1, by simp at hn; omega⟩
   have := drop_nil hd
   simp only [fold_Clean_L1, show ¬ (i < s.length) by omega, decide_false, Bool.false_eq_true, if_false, List.all_nil, Bool.true_and]
   exact fin
  | cons u r ih =>
   intro i n hd hi hn
   obtain ⟨n, rfl⟩ : ∃ k, n = k + 1 := ⟨n - 1, by simp at hn; omega⟩
   obtain ⟨h1, h2, h3⟩ := drop_more hd
   have hlt := drop_lt hd
   have hih := ih (i + 1) n h3 (by omega) (by simp at hn; omega)
   simp only [fold_Clean_L1, hlt, decide_true, if_true, List.all_cons]
   by_cases hu : u.toNat < 128
   ·rw [sdec_low h2 hu]
    cases hp : prt u with
    | true =>
     simp only [prt, Bool.and_eq_true, decide_eq_true_eq] at hp
     have e1 : ¬ ((u.toNat : Int) < 32) := by omega
     have e2 : ¬ ((u.toNat : Int) > 126) := by omega
     simp only [e1, e2, decide_false, Bool.or_self, Bool.false_eq_true, if_false, Bool.true_and]
     exact hih
    | false =>
     have : (u.toNat : Int) < 32 ∨ (u.toNat : Int) > 126 := by
      simp only [prt, Bool.and_eq_false_iff, decide_eq_false_iff_not] at hp
      omega
     have e : (decide ((u.toNat : Int) < 32) || decide ((u.toNat : Int) > 126)) = true := by simpa using this
     simp only [e, if_true, Bool.false_and]
   ·have hh := sdec_high h2 (by omega)
    have e : decide ((sdec s i).1 > 126) = true := by simp; omega
    have hp : prt u = false := by simp [prt]; omega
    simp only [e, Bool.or_true, if_true, hp, Bool.false_and]
 have := key s 0 fuel rfl (by omega) (fuel_pos hs)
 rw [fold_Clean, this]
 simp [clean, Bool.and_assoc]
theorem ref01_Clean_eq (s : Str) (hs : fits s) : ref01_Clean s = some (clean s) := by
  have key : ∀ (r : Str) (i n : Nat), s.drop i = r → i ≤ s.length → r.length < n → ref01_Clean_L1 n s (i : Int) = some (r.all prt) := by
    unfold fits at hs
    intro r
    induction r with
    | nil =>
      intro i n hd hi hn
      obtain ⟨n, rfl⟩ : ∃ k, n = k + 1 := ⟨n - 1, by simp at hn; omega⟩
      have := drop_nil hd
      simp [ref01_Clean_L1, show ¬ ((i : Int) < s.length) by omega]
    | cons u r ih =>
      intro i n hd hi hn
      obtain ⟨n, rfl⟩ : ∃ k, n = k + 1 := ⟨n - 1, by simp at hn; omega⟩
      obtain ⟨h1, h2, h3⟩ := drop_more hd
      have hlt := drop_lt hd
      simp only [ref01_Clean_L1, show ((i : Int) < s.length) by omega, decide_true, if_true, inb_n, h1, chk_true, byteAt_some h2, w64n (show i < 9223372036854775807 by omega), List.all_cons, ih (i + 1) n h3 (by omega) (by simp at hn; omega)]
      cases hp : prt u with
      | true =>
        simp only [prt, Bool.and_eq_true, decide_eq_true_eq] at hp
        simp [show ¬ ((u.toNat : Int) < 32) by omega, show ¬ ((u.toNat : Int) > 126) by omega, show ¬ (126 < (u.toNat : Int)) by omega]
      | false =>
        simp only [prt, Bool.and_eq_false_iff, decide_eq_false_iff_not] at hp
        by_cases h32 : (u.toNat : Int) < 32
        · simp [h32]
        · simp [h32, show (126 < (u.toNat : Int)) by omega]
  unfold ref01_Clean clean
  cases s with
  | nil => simp
  | cons a r =>
    have h1 := key (a :: r) 0 fuel rfl (by omega) (fuel_pos hs)
    by_cases hl : (a :: r).length ≤ 256
    · have e1 : (decide ((((a :: r).length : Nat) : Int) < 1) || decide ((((a :: r).length : Nat) : Int) > 256)) = false := by simp at hl ⊢; omega
      have e2 : inb 0 ((((a :: r).length : Nat)) : Int) = true := by simp only [inb, List.length_cons, Bool.and_eq_true, decide_eq_true_eq]; omega
      have e3 : IntKind.i64.wrap ((((a :: r).length : Nat) : Int) - 1) = ((((a :: r).length - 1 : Nat)) : Int) := by
        have := hl
        simp only [List.length_cons] at this ⊢
        rw [w64 (by omega) (by omega)]; omega
      have e4 : byteAt (a :: r) 0 = (a.toNat : Int) := by simp [byteAt]
      obtain ⟨z, hz⟩ : ∃ z, (a :: r).getLast? = some z := ⟨(a :: r).getLast (by simp), List.getLast?_eq_some_getLast (by simp)⟩
      have e5 : byteAt (a :: r) (((a :: r).length - 1 : Nat) : Int) = (z.toNat : Int) := by
        have : (a :: r)[(a :: r).length - 1]? = some z := by rw [← List.getLast?_eq_getElem?]; exact hz
        exact byteAt_some this
      have e6 : inb ((((a :: r).length - 1 : Nat)) : Int) (((a :: r).length : Nat) : Int) = true := by simp only [inb, List.length_cons, Bool.and_eq_true, decide_eq_true_eq]; omega
      have h32 : ∀ u : UInt8, ((u.toNat : Int) == 32) = (u == 32) := fun u => by
        rw [Bool.eq_iff_iff, beq_iff_eq, beq_iff_eq]
        constructor
        · intro h; exact UInt8.toNat_inj.1 (by have : u.toNat = 32 := by omega
                                               simpa using this)
        · intro h; subst h; rfl
      simp only [e1, Bool.false_eq_true, if_false, e2, chk_true, e4, e3, e6, e5, Option.bind_some, h32, hz, List.head?_cons, show decide (1 ≤ (a :: r).length) = true by simp, hl, decide_true, Bool.true_and, Bool.and_true]
      have q1 : (some a == some (32 : UInt8)) = (a == 32) := rfl
      have q2 : (some z == some (32 : UInt8)) = (z == 32) := rfl
      rw [q1, q2]
      cases a == 32 with
      | true => simp
      | false =>
        cases z == 32 with
        | true => simp
        | false => simpa using h1
    · have e1 : (decide ((((a :: r).length : Nat) : Int) < 1) || decide ((((a :: r).length : Nat) : Int) > 256)) = true := by simp at hl ⊢; omega
      simp only [e1, if_true, Option.bind_some, hl, decide_false, Bool.and_false, Bool.false_and]
theorem dec_small {m : Nat} (h : m < 10) : Lib.decDigits m = [UInt8.ofNat (48 + m)] := by rw [Lib.decDigits, dif_pos h]
theorem dec_big {m : Nat} (h : ¬ m < 10) : Lib.decDigits m = Lib.decDigits (m / 10) ++ [UInt8.ofNat (48 + m % 10)] := by rw [Lib.decDigits, dif_neg h]
theorem dec_len : ∀ (k m : Nat), m < 10 ^ k → 1 ≤ k → (Lib.decDigits m).length ≤ k
 | 0, _, _, h => by omega
 | k + 1, m, h, _ => by
  by_cases h10 : m < 10
  ·rw [dec_small h10]; simp
  ·rw [dec_big h10]
   have hk : 1 ≤ k := by
    cases k with
    | zero => simp at h; omega
    | succ k => omega
   have := dec_len k (m / 10) (by rw [Nat.div_lt_iff_lt_mul (by omega)]; rw [Nat.pow_succ] at h; exact h) hk
   simp; omega
def dd (m : Nat) : Str := if m = 0 then [] else Lib.decDigits m
theorem dd_step {m : Nat} (h : m ≠ 0) : dd m = dd (m / 10) ++ [UInt8.ofNat (48 + m % 10)] := by
 unfold dd
 rw [if_neg h]
 by_cases h10 : m < 10
 ·rw [dec_small h10, if_pos (by omega), Nat.mod_eq_of_lt h10]; rfl
 ·rw [dec_big h10, if_neg (by omega)]
theorem chr_all : ∀ d : Nat, d < 10 → bytesStr ([IntKind.u8.wrap (IntKind.i64.wrap (48 + (d : Int)))] : List Int) = [UInt8.ofNat (48 + d)] := by decide
theorem chr_eq {d : Nat} (h : d < 10) : bytesStr ([IntKind.u8.wrap (IntKind.i64.wrap (48 + (d : Int)))] : List Int) = [UInt8.ofNat (48 + d)] := chr_all d h
theorem tmod16 (a : Nat) : Int.tmod (a : Int) 16 = ((a % 16 : Nat) : Int) := by rw [Int.tmod_eq_emod_of_nonneg (by omega)]; omega
theorem tdiv16 (a : Nat) : (a : Int).tdiv 16 = ((a / 16 : Nat) : Int) := by rw [Int.tdiv_eq_ediv_of_nonneg (by omega)]; omega
theorem tmod10 (a : Nat) : Int.tmod (a : Int) 10 = ((a % 10 : Nat) : Int) := by rw [Int.tmod_eq_emod_of_nonneg (by omega)]; omega
theorem tdiv10 (a : Nat) : (a : Int).tdiv 10 = ((a / 10 : Nat) : Int) := by rw [Int.tdiv_eq_ediv_of_nonneg (by omega)]; omega
theorem ref02_loop : ∀ (k m n : Nat) (out : Str) (n0 : Int), 0 ≤ n0 → m < 10 ^ k → m < 9223372036854775808 → out.length + k ≤ 100 → k < n → ref02_Int_L1 n n0 out (m : Int) = some (dd m ++ out) := by
 intro k
 induction k with
 | zero =>
  intro m n out n0 h0 hm _ _ hn
  obtain ⟨n, rfl⟩ : ∃ k, n = k + 1 := ⟨n - 1, by omega⟩
  have : m = 0 := by simpa using hm
  subst this
  simp [ref02_Int_L1, dd, show ¬ n0 < 0 by omega]
 | succ k ih =>
  intro m n out n0 h0 hm h63 hl hn
  obtain ⟨n, rfl⟩ : ∃ k, n = k + 1 := ⟨n - 1, by omega⟩
  by_cases hz : m = 0
  ·subst hz
   simp [ref02_Int_L1, dd, show ¬ n0 < 0 by omega]
  ·have e1 : ((m : Int) != 0) = true := by simp; omega
   have e2 : Int.tmod (m : Int) 10 = ((m % 10 : Nat) : Int) := by rw [Int.tmod_eq_emod_of_nonneg (by omega)]; omega
   have e3 : (m : Int).tdiv 10 = ((m / 10 : Nat) : Int) := by rw [Int.tdiv_eq_ediv_of_nonneg (by omega)]; omega
   have e4 : ¬ (((m % 10 : Nat) : Int) < 0) := by omega
   have e5 : IntKind.i64.wrap ((m / 10 : Nat) : Int) = ((m / 10 : Nat) : Int) := w64 (by omega) (by omega)
   have h10 : m % 10 < 10 := Nat.mod_lt _ (by omega)
   have hf : fitS [UInt8.ofNat (48 + m % 10)] out = true := by simp [fitS]; omega
   have hd : m / 10 < 10 ^ k := by rw [Nat.div_lt_iff_lt_mul (by omega)]; rw [Nat.pow_succ] at hm; exact hm
   simp only [ref02_Int_L1, e1, if_true, e2, e4, decide_false, Bool.false_eq_true, if_false, ref02_Int_B2, chr_eq h10, hf, chk_true, e3, e5]
   rw [ih (m / 10) n _ n0 h0 hd (by omega) (by simp; omega) (by omega), dd_step hz]
   simp
theorem ref02_Int_eq (m : Nat) (h : m < 9223372036854775808) : ref02_Int (m : Int) = some (Lib.decDigits m) := by
 unfold ref02_Int
 by_cases hz : m = 0
 ·subst hz; simp [dec_small]
 ·have e1 : ((m : Int) == 0) = false := by simp; omega
  rw [e1]
  have := ref02_loop 20 m fuel [] (m : Int) (by omega) (by omega) h (by simp) (by unfold fuel; omega)
  simp only [Bool.false_eq_true, if_false, this, List.append_nil]
  unfold dd
  rw [if_neg hz]
theorem lib_Itoa_eq (m : Nat) (h : m < 9223372036854775808) : lib_Itoa (m : Int) = some (Lib.decDigits m) := by
 unfold lib_Itoa
 rw [chk_t (by simp; omega), itoaS_eq (by omega) (by omega)]
 unfold Lib.itoa
 rw [if_neg (by omega)]
 simp
theorem codec_Int_eq (m : Nat) (h : m < 9223372036854775808) : codec_Int (m : Int) = some (Lib.decDigits m) := by simp [codec_Int, lib_Itoa_eq m h]
theorem ten_cut : ∀ m : Nat, m < 10 → (([48, 49, 50, 51, 52, 53, 54, 55, 56, 57] : Str).drop m).take 1 = [UInt8.ofNat (48 + m)] := by decide
theorem ref03_decimal_eq : ∀ (k f m : Nat), 1 ≤ k → k ≤ f → m < 10 ^ k → m < 9223372036854775808 → ref03_decimal f (m : Int) = some (Lib.decDigits m) := by
 intro k
 induction k with
 | zero => intro f m h; omega
 | succ k ih =>
  intro f m _ hf hm h63
  obtain ⟨f, rfl⟩ : ∃ k, f = k + 1 := ⟨f - 1, by omega⟩
  by_cases h10 : m < 10
  ·have e1 : IntKind.i64.wrap ((m : Int) + 1) = ((m + 1 : Nat) : Int) := w64n (by omega)
   have e2 : inc (m : Int) ((m + 1 : Nat) : Int) (([48, 49, 50, 51, 52, 53, 54, 55, 56, 57] : List Nat).length : Nat) = true := by rw [inc_n]; simp; omega
   simp only [ref03_decimal, show ((m : Int) < 10) by omega, decide_true, if_true, e1, e2, chk_true, cut_n, show m + 1 - m = 1 by omega, ten_cut m h10, dec_small h10]
  ·have hk : 1 ≤ k := by
    cases k with
    | zero => simp at hm; omega
    | succ k => omega
   have hd : m / 10 < 10 ^ k := by rw [Nat.div_lt_iff_lt_mul (by omega)]; rw [Nat.pow_succ] at hm; exact hm
   have hmod : m % 10 < 10 ^ k := by
    have h1 : m % 10 < 10 := Nat.mod_lt _ (by omega)
    have h2 : 10 ^ 1 ≤ 10 ^ k := Nat.pow_le_pow_right (by omega) hk
    omega
   have e2 : Int.tmod (m : Int) 10 = ((m % 10 : Nat) : Int) := by rw [Int.tmod_eq_emod_of_nonneg (by omega)]; omega
   have e3 : (m : Int).tdiv 10 = ((m / 10 : Nat) : Int) := by rw [Int.tdiv_eq_ediv_of_nonneg (by omega)]; omega
   have e5 : IntKind.i64.wrap ((m / 10 : Nat) : Int) = ((m / 10 : Nat) : Int) := w64 (by omega) (by omega)
   have hl1 := dec_len 20 (m / 10) (by omega) (by omega)
   have hl2 := dec_len 20 (m % 10) (by omega) (by omega)
   have hf : fitS (Lib.decDigits (m / 10)) (Lib.decDigits (m % 10)) = true := by simp [fitS]; omega
   simp only [ref03_decimal, show ¬ ((m : Int) < 10) by omega, decide_false, Bool.false_eq_true, if_false, e3, e5, e2, ih f (m / 10) hk (by omega) hd (by omega), ih f (m % 10) hk (by omega) hmod (by omega), Option.bind_some, hf, chk_true]
   rw [dec_big h10, dec_small (show m % 10 < 10 from Nat.mod_lt _ (by omega))]
theorem wrap_u64_range (x : Int) : 0 ≤ IntKind.u64.wrap x ∧ IntKind.u64.wrap x < 18446744073709551616 := by
 simp [IntKind.wrap, IntKind.bits, IntKind.signed]; omega
theorem bXor_range (a b : Int) : 0 ≤ bXor .u64 a b ∧ bXor .u64 a b < 18446744073709551616 := wrap_u64_range _
def sumL : Int → Str → Int
 | h, [] => h
 | h, u :: r => sumL (IntKind.u64.wrap ((bXor .u64 h (IntKind.u64.wrap (u.toNat : Int))) * 1099511628211)) r
def sumF (h : Int) : Int := bXor .u64 (IntKind.u64.wrap ((bXor .u64 (IntKind.u64.wrap ((bXor .u64 h (bShr .u64 h 33)) * 18397679294719823053)) (bShr .u64 (IntKind.u64.wrap ((bXor .u64 h (bShr .u64 h 33)) * 18397679294719823053)) 33)) * 14181476777654086739)) (bShr .u64 (IntKind.u64.wrap ((bXor .u64 (IntKind.u64.wrap ((bXor .u64 h (bShr .u64 h 33)) * 18397679294719823053)) (bShr .u64 (IntKind.u64.wrap ((bXor .u64 h (bShr .u64 h 33)) * 18397679294719823053)) 33)) * 14181476777654086739)) 33)
def sumS (s : Str) : Nat := (sumF (sumL 14695981039346656037 s)).toNat
theorem sumF_range (h : Int) : 0 ≤ sumF h ∧ sumF h < 18446744073709551616 := bXor_range _ _
theorem sumS_lt (s : Str) : sumS s < 18446744073709551616 := by have := sumF_range (sumL 14695981039346656037 s); unfold sumS; omega
theorem sumS_int (s : Str) : (sumS s : Int) = sumF (sumL 14695981039346656037 s) := Int.toNat_of_nonneg (sumF_range _).1
theorem dsum_loop (s : Str) (hs : fits s) : ∀ (r : Str) (i n : Nat) (h : Int), s.drop i = r → i ≤ s.length → r.length < n →
  digest_Sum_L1 n s h (s.length : Int) (i : Int) = some (sumF (sumL h r)) := by
 unfold fits at hs
 intro r
 induction r with
 | nil =>
  intro i n h hd hi hn
  obtain ⟨n, rfl⟩ : ∃ k, n = k + 1 := ⟨n - 1, by simp at hn; omega⟩
  have := drop_nil hd
  simp only [digest_Sum_L1, show ¬ ((i : Int) < s.length) by omega, decide_false, Bool.false_eq_true, if_false]
  rfl
 | cons u r ih =>
  intro i n h hd hi hn
  obtain ⟨n, rfl⟩ : ∃ k, n = k + 1 := ⟨n - 1, by simp at hn; omega⟩
  obtain ⟨h1, h2, h3⟩ := drop_more hd
  have hlt := drop_lt hd
  simp only [digest_Sum_L1, show ((i : Int) < s.length) by omega, decide_true, if_true, inb_n, h1, chk_true, w64n (show i < 9223372036854775807 by omega), byteAt_some h2, sumL]
  exact ih (i + 1) n _ h3 (by omega) (by simp at hn; omega)
theorem digest_Sum_eq (s : Str) (hs : fits s) : digest_Sum s = some (sumS s : Int) := by
 rw [sumS_int]; exact dsum_loop s hs s 0 fuel _ rfl (by omega) (fuel_pos hs)
theorem rsum_loop (s : Str) (hs : fits s) : ∀ (r : Str) (i n : Nat) (h : Int), s.drop i = r → i ≤ s.length → r.length < n →
  ref03_Sum_L1 n s h (i : Int) = some (sumF (sumL h r)) := by
 unfold fits at hs
 intro r
 induction r with
 | nil =>
  intro i n h hd hi hn
  obtain ⟨n, rfl⟩ : ∃ k, n = k + 1 := ⟨n - 1, by simp at hn; omega⟩
  have := drop_nil hd
  simp only [ref03_Sum_L1, show ¬ ((i : Int) < s.length) by omega, decide_false, Bool.false_eq_true, if_false]
  rfl
 | cons u r ih =>
  intro i n h hd hi hn
  obtain ⟨n, rfl⟩ : ∃ k, n = k + 1 := ⟨n - 1, by simp at hn; omega⟩
  obtain ⟨h1, h2, h3⟩ := drop_more hd
  have hlt := drop_lt hd
  simp only [ref03_Sum_L1, show ((i : Int) < s.length) by omega, decide_true, if_true, inb_n, h1, chk_true, w64n (show i < 9223372036854775807 by omega), byteAt_some h2, sumL]
  exact ih (i + 1) n _ h3 (by omega) (by simp at hn; omega)
theorem ref03_Sum_eq (s : Str) (hs : fits s) : ref03_Sum s = some (sumS s : Int) ∧ sumS s < 18446744073709551616 :=
 ⟨by rw [sumS_int]; exact rsum_loop s hs s 0 fuel _ rfl (by omega) (fuel_pos hs), sumS_lt s⟩
def hexd (m : Nat) : UInt8 := if m < 10 then UInt8.ofNat (48 + m) else UInt8.ofNat (87 + m)
def hexL : Nat → Nat → Str
 | 0, _ => []
 | t + 1, m => hexd (m / 16 ^ t % 16) :: hexL t m
def hexS (m : Nat) : Str := hexL 16 m
theorem hexL_len : ∀ t m, (hexL t m).length = t
 | 0, _ => rfl
 | t + 1, m => by simp [hexL, hexL_len t m]
theorem hex_tab : ∀ j : Nat, j < 16 → tab_digest_digits[j]? = some ((hexd j).toNat : Int) := by decide
theorem hex_cut : ∀ j : Nat, j < 16 → (([48, 49, 50, 51, 52, 53, 54, 55, 56, 57, 97, 98, 99, 100, 101, 102] : Str).drop j).take 1 = [hexd j] := by decide
theorem bAnd15 (x : Nat) (hx : x < 18446744073709551616) : bAnd .u64 (x : Int) 15 = ((x % 16 : Nat) : Int) := by
 unfold bAnd
 have e1 : (BitVec.ofInt 64 (x : Int)) = BitVec.ofNat 64 x := by simp
 have e2 : (BitVec.ofInt 64 (15 : Int)) = BitVec.ofNat 64 15 := rfl
 show IntKind.u64.wrap (((BitVec.ofInt 64 (x : Int) &&& BitVec.ofInt 64 15).toNat : Nat) : Int) = _
 rw [e1, e2, BitVec.toNat_and, BitVec.toNat_ofNat, BitVec.toNat_ofNat, Nat.mod_eq_of_lt hx]
 have e3 : x &&& (15 % 2 ^ 64) = x % 16 := Nat.and_two_pow_sub_one_eq_mod x 4
 rw [e3, wu64 (by omega) (by have := Nat.mod_lt x (show 16 > 0 by omega); omega)]
theorem bShr4 (x t : Nat) (ht : t < 16) : bShr .u64 (x : Int) ((4 * t : Nat) : Int) = ((x / 16 ^ t : Nat) : Int) := by
 unfold bShr
 have e1 : min (((4 * t : Nat) : Int).toNat) (IntKind.u64.bits) = 4 * t := by simp [IntKind.bits]; omega
 rw [e1, Int.fdiv_eq_ediv_of_nonneg _ (Int.le_of_lt (Int.pow_pos (by omega)))]
 rw [show (2 : Int) ^ (4 * t) = ((16 ^ t : Nat) : Int) by rw [Int.pow_mul]; simp]
 simp
theorem Hex_loop (m : Nat) (hm : m < 18446744073709551616) : ∀ (k t n : Nat), t + k = 16 → k < n →
  digest_Hex_L1 n (m : Int) (List.replicate (16 - t) 0 ++ (hexL t m).map fun u => (u.toNat : Int)) (t : Int) = some (hexS m) := by
 intro k
 induction k with
 | zero =>
  intro t n ht hn
  obtain ⟨n, rfl⟩ : ∃ k, n = k + 1 := ⟨n - 1, by omega⟩
  have : t = 16 := by omega
  subst this
  have hb : bytesStr ((hexL 16 m).map fun u => (u.toNat : Int)) = hexL 16 m := by
   unfold bytesStr
   rw [List.map_map]
   exact List.map_id'' (fun u => by simp) _
  simp [digest_Hex_L1, hexL_len, chk, hb, hexS]
 | succ k ih =>
  intro t n ht hn
  obtain ⟨n, rfl⟩ : ∃ k, n = k + 1 := ⟨n - 1, by omega⟩
  have hx : m / 16 ^ t < 18446744073709551616 := Nat.lt_of_le_of_lt (Nat.div_le_self _ _) hm
  have e1 : IntKind.i64.wrap (4 * (t : Int)) = ((4 * t : Nat) : Int) := by rw [w64 (by omega) (by omega)]; omega
  have e2 : bAnd .u64 (bShr .u64 (m : Int) ((4 * t : Nat) : Int)) 15 = ((m / 16 ^ t % 16 : Nat) : Int) := by rw [bShr4 m t (by omega), bAnd15 _ hx]
  have h16 : m / 16 ^ t % 16 < 16 := Nat.mod_lt _ (by omega)
  have e3 : IntKind.i64.wrap (15 - (t : Int)) = ((15 - t : Nat) : Int) := by rw [w64 (by omega) (by omega)]; omega
  have hlen : (List.replicate (16 - t) (0 : Int) ++ (hexL t m).map fun u => (u.toNat : Int)).length = 16 := by simp [hexL_len]; omega
  have e4 : setAt (List.replicate (16 - t) (0 : Int) ++ (hexL t m).map fun u => (u.toNat : Int)) ((15 - t : Nat) : Int) ((hexd (m / 16 ^ t % 16)).toNat : Int) =
    List.replicate (16 - (t + 1)) (0 : Int) ++ (hexL (t + 1) m).map fun u => (u.toNat : Int) := by
   unfold setAt
   rw [Int.toNat_natCast, show 16 - t = (15 - t) + 1 by omega, List.replicate_succ', List.append_assoc, List.set_append_right _ _ (by simp)]
   simp [hexL, show 16 - (t + 1) = 15 - t by omega]
  have e5 : inb ((m / 16 ^ t % 16 : Nat) : Int) 16 = true := by rw [inb_iff]; omega
  have e6 : inb ((15 - t : Nat) : Int) 16 = true := by rw [inb_iff]; omega
  have e7 : inb ((15 - t : Nat) : Int) ((List.replicate (16 - t) (0 : Int) ++ (hexL t m).map fun u => (u.toNat : Int)).length : Nat) = true := by rw [hlen, inb_iff]; omega
  simp only [digest_Hex_L1, show ((t : Int) < 16) by omega, decide_true, if_true, e1, show (0 : Int) ≤ ((4 * t : Nat) : Int) by omega, chk_true, e2, e5, idx_n, hex_tab _ h16, Option.bind_some, e3, e6, e7, e4, w64n (show t < 9223372036854775807 by omega)]
  exact ih (t + 1) n (by omega) (by omega)
theorem digest_Hex_eq (m : Nat) (hm : m < 18446744073709551616) : digest_Hex (m : Int) = some (hexS m) := Hex_loop m hm 16 0 fuel rfl (by unfold fuel; omega)
theorem refHex_loop (m : Nat) (hm : m < 18446744073709551616) : ∀ (k t n : Nat), t + k = 16 → k < n → ref03_Hex_L1 n ((m / 16 ^ t : Nat) : Int) (hexL t m) (t : Int) = some (hexS m) := by
 intro k
 induction k with
 | zero =>
  intro t n ht hn
  obtain ⟨n, rfl⟩ : ∃ k, n = k + 1 := ⟨n - 1, by omega⟩
  have : t = 16 := by omega
  subst this
  simp [ref03_Hex_L1, hexS]
 | succ k ih =>
  intro t n ht hn
  obtain ⟨n, rfl⟩ : ∃ k, n = k + 1 := ⟨n - 1, by omega⟩
  have hx : m / 16 ^ t < 18446744073709551616 := Nat.lt_of_le_of_lt (Nat.div_le_self _ _) hm
  have h16 : m / 16 ^ t % 16 < 16 := Nat.mod_lt _ (by omega)
  have e1 : Int.tmod ((m / 16 ^ t : Nat) : Int) 16 = ((m / 16 ^ t % 16 : Nat) : Int) := tmod16 _
  have e2 : IntKind.u64.wrap (((m / 16 ^ t % 16 : Nat) : Int) + 1) = ((m / 16 ^ t % 16 + 1 : Nat) : Int) := by rw [wu64 (by omega) (by omega)]; omega
  have e3 : IntKind.u64.wrap (((m / 16 ^ t : Nat) : Int).tdiv 16) = ((m / 16 ^ (t + 1) : Nat) : Int) := by
   rw [tdiv16, wu64 (Int.natCast_nonneg _) (by have h := Nat.div_le_self (m / 16 ^ t) 16; generalize m / 16 ^ t / 16 = q at *; generalize m / 16 ^ t = p at *; omega), Nat.div_div_eq_div_mul, ← Nat.pow_succ]
  have e4 : inc ((m / 16 ^ t % 16 : Nat) : Int) ((m / 16 ^ t % 16 + 1 : Nat) : Int) (([48, 49, 50, 51, 52, 53, 54, 55, 56, 57, 97, 98, 99, 100, 101, 102] : List Nat).length : Nat) = true := by rw [inc_n]; simp; omega
  have e5 : fitS [hexd (m / 16 ^ t % 16)] (hexL t m) = true := by simp [fitS, hexL_len]; omega
  simp only [ref03_Hex_L1, show ((t : Int) < 16) by omega, decide_true, if_true, e1, e2, e4, chk_true, cut_n, Nat.add_sub_cancel_left, hex_cut _ h16, e5, e3, w64n (show t < 9223372036854775807 by omega)]
  exact ih (t + 1) n (by omega) (by omega)
theorem ref03_Hex_eq (m : Nat) (hm : m < 18446744073709551616) : ref03_Hex (m : Int) = some (hexS m) := by
 have := refHex_loop m hm 16 0 fuel rfl (by unfold fuel; omega)
 simpa [ref03_Hex, hexL] using this
def textS (s : Str) : Str := hexS (sumS s)
theorem textS_len (s : Str) : (textS s).length = 16 := hexL_len _ _
theorem digest_Text_eq (s : Str) (hs : fits s) : digest_Text s = some (textS s) := by
 unfold textS digest_Text
 rw [digest_Sum_eq s hs, Option.bind_some, digest_Hex_eq (sumS s) (sumS_lt s), Option.bind_some]
theorem ref03_Text_eq (s : Str) (hs : fits s) : ref03_Text s = some (textS s) := by
 unfold textS ref03_Text
 rw [(ref03_Sum_eq s hs).1, Option.bind_some, ref03_Hex_eq (sumS s) (sumS_lt s), Option.bind_some]
def macS (key s : Str) : Str := textS (Lib.decDigits key.length ++ [58] ++ key ++ textS (Lib.decDigits key.length ++ [58] ++ key ++ s))
theorem macS_len (key s : Str) : (macS key s).length = 16 := textS_len _
def mid (s : Str) : Prop := s.length ≤ 1099511627776
theorem mac_fits (key s : Str) (hk : mid key) (hs : mid s) : (Lib.decDigits key.length).length ≤ 20 := by unfold mid at hk; exact dec_len 20 _ (by omega) (by omega)
theorem digest_Mac_eq (key s : Str) (hk : mid key) (hs : mid s) : digest_Mac key s = some (macS key s) := by
 have h1 := mac_fits key s hk hs
 unfold mid at hk hs
 have f1 : fitS (Lib.decDigits key.length) [58] = true := by simp [fitS]; omega
 have f2 : fitS (Lib.decDigits key.length ++ [58]) key = true := by simp [fitS]; omega
 have f3 : fitS (Lib.decDigits key.length ++ [58] ++ key) s = true := by simp [fitS]; omega
 have f4 : fitS (Lib.decDigits key.length ++ [58] ++ key) (textS (Lib.decDigits key.length ++ [58] ++ key ++ s)) = true := by simp [fitS, textS_len]; omega
 unfold digest_Mac
 simp only [lib_Itoa_eq key.length (by omega), Option.bind_some, f1, f2, f3, chk_true, digest_Text_eq (Lib.decDigits key.length ++ [58] ++ key ++ s) (by unfold fits; simp; omega), f4,
  digest_Text_eq (Lib.decDigits key.length ++ [58] ++ key ++ textS (Lib.decDigits key.length ++ [58] ++ key ++ s)) (by unfold fits; simp [textS_len]; omega), macS]
theorem ref03_Mac_eq (key s : Str) (hk : mid key) (hs : mid s) : ref03_Mac key s = some (macS key s) := by
 have h1 := mac_fits key s hk hs
 unfold mid at hk hs
 have f1 : fitS (Lib.decDigits key.length) [58] = true := by simp [fitS]; omega
 have f2 : fitS (Lib.decDigits key.length ++ [58]) key = true := by simp [fitS]; omega
 have f3 : fitS (Lib.decDigits key.length ++ [58] ++ key) s = true := by simp [fitS]; omega
 have f4 : fitS (Lib.decDigits key.length ++ [58] ++ key) (textS (Lib.decDigits key.length ++ [58] ++ key ++ s)) = true := by simp [fitS, textS_len]; omega
 unfold ref03_Mac
 simp only [ref03_decimal_eq 20 fuel key.length (by omega) (by unfold fuel; omega) (by omega) (by omega), Option.bind_some, f1, f2, f3, chk_true, ref03_Text_eq (Lib.decDigits key.length ++ [58] ++ key ++ s) (by unfold fits; simp; omega), f4,
  ref03_Text_eq (Lib.decDigits key.length ++ [58] ++ key ++ textS (Lib.decDigits key.length ++ [58] ++ key ++ s)) (by unfold fits; simp [textS_len]; omega), macS]
def lim (t : Int) : Int := gmin (gmax t 0) 1099511627776
theorem lim_range (t : Int) : 0 ≤ lim t ∧ lim t ≤ 1099511627776 := by unfold lim gmin gmax; split <;> split <;> omega
theorem lim_eq (t : Int) : gmax 0 (gmin t 1099511627776) = lim t := by unfold lim gmin gmax; repeat' split <;> omega
theorem lim_val (t : Int) : lim t = if t < 0 then 0 else if t > 1099511627776 then 1099511627776 else t := by unfold lim gmin gmax; repeat' split <;> omega
theorem lim_lim (a : Int) : lim (lim a) = lim a := by have := lim_range a; rw [lim_val (lim a)]; split <;> (try split) <;> omega
theorem lim_0 : lim 0 = 0 := rfl
theorem gmax_ge {a b : Int} : a ≤ gmax a b ∧ b ≤ gmax a b ∧ (gmax a b = a ∨ gmax a b = b) := by unfold gmax; split <;> omega
theorem gmin_le {a b : Int} : gmin a b ≤ a ∧ gmin a b ≤ b ∧ (gmin a b = a ∨ gmin a b = b) := by unfold gmin; split <;> omega
theorem fuel_big {n : Nat} (h : n < 9223372036854775808) : n < fuel := by unfold fuel; omega
theorem word_len {s : Str} (h : word s = true) : 1 ≤ s.length ∧ s.length ≤ 64 := by
 simp only [word, Bool.and_eq_true, decide_eq_true_eq] at h; exact h.2
theorem word_fits {s : Str} (h : word s = true) : fits s := by have := word_len h; unfold fits; omega
def hexB (u : UInt8) : Bool := (decide (48 ≤ u.toNat) && decide (u.toNat ≤ 57)) || (decide (97 ≤ u.toNat) && decide (u.toNat ≤ 102))
def hc4 (b : Bool) : Int := if b then 0 else 4
def hexOK (s : Str) : Bool := decide (s.length = 16) && s.all hexB
def dvF : Nat → Nat → Int → Int → Int
 | 0, _, v, _ => v
 | k + 1, t, v, b => dvF k (t + 1) (if (tab_digest_digits[t]?).getD 0 == b then (t : Int) else v) b
theorem dvF_hex : ∀ b : Nat, b < 256 → decide (dvF 16 0 (-1) (b : Int) < 0) = !hexB (UInt8.ofNat b) := by decide +kernel
theorem dvF_hexU (u : UInt8) : decide (dvF 16 0 (-1) (u.toNat : Int) < 0) = !hexB u := by
 have := dvF_hex u.toNat u.toNat_lt
 rwa [UInt8.ofNat_toNat] at this
theorem ReadHex_L2_eq (r0 : Str → Int → Int → Int → Option (Int × Int)) (s : Str) (i : Nat) (u : UInt8) (hu : s[i]? = some u) (n4 t13 t14 : Int) : ∀ (k t n : Nat) (v : Int), t + k = 16 → k < n →
  digest_ReadHex_L2 r0 n s n4 (i : Int) v t13 t14 (t : Int) =
   if decide (dvF k t v (u.toNat : Int) < 0) then some (0, 4) else r0 s (bOr .u64 (bShl .u64 n4 4) (IntKind.u64.wrap (dvF k t v (u.toNat : Int)))) t13 (IntKind.i64.wrap (t14 + 1)) := by
 have hi := (List.getElem?_eq_some_iff.1 hu).1
 intro k
 induction k with
 | zero =>
  intro t n v ht hn
  obtain ⟨n, rfl⟩ : ∃ k, n = k + 1 := ⟨n - 1, by omega⟩
  simp only [digest_ReadHex_L2, show ¬ ((t : Int) < 16) by omega, decide_false, Bool.false_eq_true, if_false, dvF]
  rfl
 | succ k ih =>
  intro t n v ht hn
  obtain ⟨n, rfl⟩ : ∃ k, n = k + 1 := ⟨n - 1, by omega⟩
  have hlt : t < tab_digest_digits.length := by show t < 16; omega
  have hg : tab_digest_digits[t]? = some tab_digest_digits[t] := List.getElem?_eq_getElem hlt
  simp only [digest_ReadHex_L2, show ((t : Int) < 16) by omega, decide_true, if_true, idx_n, hg, Option.bind_some, inb_n, hi, chk_true, byteAt_some hu, digest_ReadHex_B3, w64n (show t < 9223372036854775807 by omega), dvF, Option.getD_some]
  split
  ·exact ih (t + 1) n _ (by omega) (by omega)
  ·exact ih (t + 1) n _ (by omega) (by omega)
theorem ReadHex_loop (s : Str) (hs : s.length = 16) : ∀ (r : Str) (i n : Nat) (n4 : Int), s.drop i = r → r.length < n →
  ∃ v, digest_ReadHex_L1 n s n4 (s.length : Int) (i : Int) = some (v, hc4 (r.all hexB)) := by
 intro r
 induction r with
 | nil =>
  intro i n n4 hd hn
  obtain ⟨n, rfl⟩ : ∃ k, n = k + 1 := ⟨n - 1, by simp at hn; omega⟩
  have := drop_nil hd
  exact ⟨n4, by simp only [digest_ReadHex_L1, show ¬ ((i : Int) < s.length) by omega, decide_false, Bool.false_eq_true, if_false]; rfl⟩
 | cons u r ih =>
  intro i n n4 hd hn
  obtain ⟨n, rfl⟩ : ∃ k, n = k + 1 := ⟨n - 1, by simp at hn; omega⟩
  obtain ⟨h1, h2, h3⟩ := drop_more hd
  have hlt := drop_lt hd
  simp only [digest_ReadHex_L1, show ((i : Int) < s.length) by omega, decide_true, if_true]
  have := ReadHex_L2_eq (digest_ReadHex_L1 n) s i u h2 n4 (s.length : Int) (i : Int) 16 0 fuel (-1) rfl (by unfold fuel; omega)
  rw [show ((0 : Nat) : Int) = 0 from rfl] at this
  rw [this, dvF_hexU, List.all_cons]
  cases hx : hexB u with
  | false => exact ⟨0, rfl⟩
  | true =>
   simp only [Bool.not_true, Bool.false_eq_true, if_false, w64n (show i < 9223372036854775807 by omega), Bool.true_and]
   exact ih (i + 1) n _ h3 (by simp at hn; omega)
theorem digest_ReadHex_eq (s : Str) : ∃ v, digest_ReadHex s = some (v, hc4 (hexOK s)) := by
 unfold digest_ReadHex hexOK
 by_cases h : s.length = 16
 ·obtain ⟨v, hv⟩ := ReadHex_loop s h s 0 fuel 0 rfl (by rw [h]; unfold fuel; omega)
  refine ⟨v, ?_⟩
  have h16 : ((s.length : Int) != 16) = false := by simp [h]
  rw [h16, if_neg (by simp)]
  have hv' : digest_ReadHex_L1 fuel s 0 (s.length : Int) 0 = _ := hv
  rw [hv', h]; simp
 ·have h16 : ((s.length : Int) != 16) = true := by simp; omega
  refine ⟨0, ?_⟩
  rw [h16, if_pos rfl]; simp [h, hc4]
def vldS (v : api_Verifier) : Bool := ((word v.Salt && decide (v.Rounds ≥ 1)) && decide (v.Rounds ≤ 64)) && hexOK v.Hash
theorem hex4 (b : Bool) : (hc4 b == 0) = b := by cases b <;> rfl
theorem secret_Valid_eq (v : api_Verifier) (hs : fits v.Salt) : secret_Valid v = some (vldS v) := by
 obtain ⟨x, hx⟩ := digest_ReadHex_eq v.Hash
 unfold secret_Valid vldS
 rw [hx, Option.bind_some, fold_Word_eq _ hs, Option.bind_some]
 simp only [hex4]
def pwS (s : Str) : Bool := s.all prt && (decide (8 ≤ s.length) && decide (s.length ≤ 256))
theorem prt_byte (u : UInt8) (b : Option Bool) : (Option.bind (if decide ((u.toNat : Int) < 32) = true then some true else some (decide ((u.toNat : Int) > 126))) fun z5 => if z5 = true then some false else b) = if prt u then b else some false := by
 unfold prt
 by_cases h1 : u.toNat < 32
 ·rw [if_pos (decide_eq_true (by omega))]
  simp [show ¬ 32 ≤ u.toNat by omega]
 ·rw [if_neg (by simp; omega)]
  by_cases h2 : u.toNat > 126
  ·simp [show ¬ u.toNat ≤ 126 by omega, show (126 : Int) < u.toNat by omega]
  ·simp [show u.toNat ≤ 126 by omega, show 32 ≤ u.toNat by omega, show ¬ (126 : Int) < u.toNat by omega]
theorem isPassword_loop (s : Str) (hs : fits s) : ∀ (r : Str) (i n : Nat), s.drop i = r → i ≤ s.length → r.length < n →
  secret_isPassword_L1 n s (s.length : Int) (i : Int) = some (r.all prt && (decide (8 ≤ s.length) && decide (s.length ≤ 256))) := by
 unfold fits at hs
 intro r
 induction r with
 | nil =>
  intro i n hd hi hn
  obtain ⟨n, rfl⟩ : ∃ k, n = k + 1 := ⟨n - 1, by simp at hn; omega⟩
  have := drop_nil hd
  simp only [secret_isPassword_L1, show ¬ ((i : Int) < s.length) by omega, decide_false, Bool.false_eq_true, if_false, List.all_nil, Bool.true_and, Option.some.injEq]
  congr 1
  ·rw [decide_eq_decide]; omega
  ·rw [decide_eq_decide]; omega
 | cons u r ih =>
  intro i n hd hi hn
  obtain ⟨n, rfl⟩ : ∃ k, n = k + 1 := ⟨n - 1, by simp at hn; omega⟩
  obtain ⟨h1, h2, h3⟩ := drop_more hd
  have hlt := drop_lt hd
  simp only [secret_isPassword_L1, show ((i : Int) < s.length) by omega, decide_true, if_true, inb_n, h1, chk_true, byteAt_some h2, w64n (show i < 9223372036854775807 by omega), prt_byte, List.all_cons]
  cases hp : prt u with
  | false => rfl
  | true => simp only [if_true, Bool.true_and]; exact ih (i + 1) n h3 (by omega) (by simp at hn; omega)
theorem secret_isPassword_eq (s : Str) (hs : fits s) : secret_isPassword s = some (pwS s) := isPassword_loop s hs s 0 fuel rfl (by omega) (fuel_pos hs)
def itN (salt : Str) : Nat → Str → Str
 | 0, h => h
 | n + 1, h => itN salt n (textS (h ++ [124] ++ salt))
def itS (salt s : Str) (r : Int) : Str := itN salt (gmin (gmax r 0) 64).toNat (textS (salt ++ [124] ++ s))
theorem Iterate_loop (salt : Str) (hs : salt.length ≤ 1000000) (N : Nat) (hN : N ≤ 64) : ∀ (k i n : Nat) (h : Str), i + k = N → k < n → h.length = 16 →
  digest_Iterate_L1 n salt h (N : Int) (i : Int) = some (itN salt k h) := by
 intro k
 induction k with
 | zero =>
  intro i n h hi hn hh
  obtain ⟨n, rfl⟩ : ∃ k, n = k + 1 := ⟨n - 1, by omega⟩
  simp only [digest_Iterate_L1, show ¬ ((i : Int) < (N : Int)) by omega, decide_false, Bool.false_eq_true, if_false, itN]
 | succ k ih =>
  intro i n h hi hn hh
  obtain ⟨n, rfl⟩ : ∃ k, n = k + 1 := ⟨n - 1, by omega⟩
  simp only [digest_Iterate_L1, show ((i : Int) < (N : Int)) by omega, decide_true, if_true, itN]
  rw [chk_t (by simp [fitS]; omega), chk_t (by simp [fitS]; omega), digest_Text_eq _ (by unfold fits; simp; omega), Option.bind_some, w64n (by omega)]
  exact ih (i + 1) n _ (by omega) (by omega) (textS_len _)
theorem digest_Iterate_eq (salt s : Str) (r : Int) (h1 : salt.length ≤ 1000000) (h2 : s.length ≤ 1000000) : digest_Iterate salt s r = some (itS salt s r) := by
 unfold digest_Iterate itS
 rw [chk_t (by simp [fitS]; omega), chk_t (by simp [fitS]; omega), digest_Text_eq _ (by unfold fits; simp; omega), Option.bind_some]
 have hr : 0 ≤ gmin (gmax r 0) 64 ∧ gmin (gmax r 0) 64 ≤ 64 := by unfold gmin gmax; split <;> split <;> omega
 have he : gmin (gmax r 0) 64 = ((gmin (gmax r 0) 64).toNat : Int) := by omega
 have := Iterate_loop salt h1 (gmin (gmax r 0) 64).toNat (by omega) (gmin (gmax r 0) 64).toNat 0 fuel (textS (salt ++ [124] ++ s)) (by omega) (by unfold fuel; omega) (textS_len _)
 rw [← he] at this
 exact this
def chkS (v : api_Verifier) (p : Str) : Bool := (vldS v && pwS p) && v.Hash == itS v.Salt p v.Rounds
theorem vldS_salt {v : api_Verifier} (h : vldS v = true) : v.Salt.length ≤ 64 := by
 simp only [vldS, word, Bool.and_eq_true, decide_eq_true_eq] at h; exact h.1.1.1.2.2
theorem pwS_len {p : Str} (h : pwS p = true) : p.length ≤ 256 := by
 simp only [pwS, Bool.and_eq_true, decide_eq_true_eq] at h; exact h.2.2
theorem secret_Check_eq (v : api_Verifier) (p : Str) (hs : fits v.Salt) (hp : fits p) : secret_Check v p = some (chkS v p) := by
 unfold secret_Check chkS
 rw [secret_Valid_eq v hs, Option.bind_some]
 cases h1 : vldS v with
 | false => rfl
 | true =>
  rw [if_pos rfl, secret_isPassword_eq p hp]
  cases h2 : pwS p with
  | false => rfl
  | true =>
   have a1 := vldS_salt h1
   have a2 := pwS_len h2
   simp only [Option.bind_some, if_true, digest_Iterate_eq v.Salt p v.Rounds (by omega) (by omega), Bool.true_and]
def zvS : api_Verifier := ⟨[], 0, []⟩
def makS (p salt : Str) (r : Int) : api_Verifier × Int :=
 if (!word salt || decide (r < 1)) || decide (r > 64) then (zvS, 2) else if !pwS p then (zvS, 4) else (⟨salt, r, itS salt p r⟩, 0)
theorem secret_Make_eq (p salt : Str) (r : Int) (hp : fits p) (hs : fits salt) : secret_Make p salt r = some (makS p salt r) := by
 unfold secret_Make makS
 rw [fold_Word_eq salt hs, Option.bind_some]
 cases h : (!word salt || decide (r < 1)) || decide (r > 64) with
 | true => rfl
 | false =>
  simp only [Bool.false_eq_true, if_false, secret_isPassword_eq p hp, Option.bind_some]
  cases h2 : pwS p with
  | false => rfl
  | true =>
   simp only [Bool.or_eq_false_iff, Bool.not_eq_false'] at h
   have a1 : salt.length ≤ 64 := by have := h.1.1; simp only [word, Bool.and_eq_true, decide_eq_true_eq] at this; exact this.2.2
   have a2 := pwS_len h2
   simp only [Bool.not_true, Bool.false_eq_true, if_false, digest_Iterate_eq salt p r (by omega) (by omega), Option.bind_some]
theorem refHex_loopS (s : Str) (hs : s.length = 16) : ∀ (r : Str) (i n : Nat) (n4 : Int), s.drop i = r → i ≤ 16 → r.length < n →
  ∃ v, ref03_ReadHex_L1 n s n4 (i : Int) = some (v, hc4 (r.all hexB)) := by
 intro r
 induction r with
 | nil =>
  intro i n n4 hd hi hn
  obtain ⟨n, rfl⟩ : ∃ k, n = k + 1 := ⟨n - 1, by simp at hn; omega⟩
  have := drop_nil hd
  exact ⟨n4, by simp only [ref03_ReadHex_L1, show ¬ ((i : Int) < 16) by omega, decide_false, Bool.false_eq_true, if_false]; rfl⟩
 | cons u r ih =>
  intro i n n4 hd hi hn
  obtain ⟨n, rfl⟩ : ∃ k, n = k + 1 := ⟨n - 1, by simp at hn; omega⟩
  obtain ⟨h1, h2, h3⟩ := drop_more hd
  have hlt := drop_lt hd
  simp only [ref03_ReadHex_L1, show ((i : Int) < 16) by omega, decide_true, if_true, inb_n, h1, chk_true, byteAt_some h2, ref03_ReadHex_B2, w64n (show i < 9223372036854775807 by omega), List.all_cons]
  by_cases c1 : 48 ≤ u.toNat ∧ u.toNat ≤ 57
  ·have hb : hexB u = true := by simp [hexB, c1]
   rw [if_pos (by simp; omega), hb]
   simp only [Bool.true_and]
   exact ih (i + 1) n _ h3 (by omega) (by simp at hn; omega)
  ·rw [if_neg (by simp; omega)]
   by_cases c2 : 97 ≤ u.toNat ∧ u.toNat ≤ 102
   ·have hb : hexB u = true := by simp [hexB, c2]
    rw [if_pos (by simp; omega), hb]
    simp only [Bool.true_and]
    exact ih (i + 1) n _ h3 (by omega) (by simp at hn; omega)
   ·have hb : hexB u = false := by simp only [hexB, Bool.or_eq_false_iff, Bool.and_eq_false_iff, decide_eq_false_iff_not]; omega
    rw [if_neg (by simp; omega), hb]
    exact ⟨0, rfl⟩
theorem ref03_ReadHex_eq (s : Str) : ∃ v, ref03_ReadHex s = some (v, hc4 (hexOK s)) := by
 unfold ref03_ReadHex hexOK
 by_cases h : s.length = 16
 ·obtain ⟨v, hv⟩ := refHex_loopS s h s 0 fuel 0 rfl (by omega) (by rw [h]; unfold fuel; omega)
  refine ⟨v, ?_⟩
  have h16 : ((s.length : Int) != 16) = false := by simp [h]
  rw [h16, if_neg (by simp)]
  have hv' : ref03_ReadHex_L1 fuel s 0 0 = _ := hv
  rw [hv', h]; simp
 ·have h16 : ((s.length : Int) != 16) = true := by simp; omega
  refine ⟨0, ?_⟩
  rw [h16, if_pos rfl]; simp [h, hc4]
theorem ref22_Valid_eq (v : api_Verifier) (hs : fits v.Salt) : ref22_Valid v = some (vldS v) := by
 obtain ⟨x, hx⟩ := ref03_ReadHex_eq v.Hash
 unfold ref22_Valid vldS
 rw [hx, Option.bind_some, ref01_Word_eq _ hs, Option.bind_some]
 simp only [hex4]
theorem refPass_loop (s : Str) (hs : fits s) : ∀ (r : Str) (i n : Nat), s.drop i = r → i ≤ s.length → r.length < n →
  ref22_Password_L1 n s (i : Int) = some (r.all prt) := by
 unfold fits at hs
 intro r
 induction r with
 | nil =>
  intro i n hd hi hn
  obtain ⟨n, rfl⟩ : ∃ k, n = k + 1 := ⟨n - 1, by simp at hn; omega⟩
  have := drop_nil hd
  simp only [ref22_Password_L1, show ¬ ((i : Int) < s.length) by omega, decide_false, Bool.false_eq_true, if_false, List.all_nil]
 | cons u r ih =>
  intro i n hd hi hn
  obtain ⟨n, rfl⟩ : ∃ k, n = k + 1 := ⟨n - 1, by simp at hn; omega⟩
  obtain ⟨h1, h2, h3⟩ := drop_more hd
  have hlt := drop_lt hd
  simp only [ref22_Password_L1, show ((i : Int) < s.length) by omega, decide_true, if_true, inb_n, h1, chk_true, byteAt_some h2, w64n (show i < 9223372036854775807 by omega), prt_byte, List.all_cons]
  cases hp : prt u with
  | false => rfl
  | true => simp only [if_true, Bool.true_and]; exact ih (i + 1) n h3 (by omega) (by simp at hn; omega)
theorem ref22_Password_eq (s : Str) (hs : fits s) : ref22_Password s = some (pwS s) := by
 unfold ref22_Password pwS
 by_cases h : s.length < 8 ∨ s.length > 256
 ·have : ((decide ((s.length : Int) < 8)) || (decide ((s.length : Int) > 256))) = true := by simp; omega
  rw [if_pos this]
  have h2 : (decide (8 ≤ s.length) && decide (s.length ≤ 256)) = false := by
   simp only [Bool.and_eq_false_iff, decide_eq_false_iff_not]; omega
  rw [h2, Bool.and_false]
 ·have : ((decide ((s.length : Int) < 8)) || (decide ((s.length : Int) > 256))) = false := by simp; omega
  rw [if_neg (by rw [this]; simp)]
  have h2 : (decide (8 ≤ s.length) && decide (s.length ≤ 256)) = true := by simp; omega
  rw [h2, Bool.and_true]
  exact refPass_loop s hs s 0 fuel rfl (by omega) (fuel_pos hs)
theorem refIter_loop (salt : Str) (hs : salt.length ≤ 1000000) (r : Int) : ∀ (k i n : Nat) (h : Str), (gmin (gmax r 0) 64).toNat = i + k → k < n → h.length = 16 →
  ref03_Iterate_L1 n salt r h (i : Int) = some (itN salt k h) := by
 have hr : 0 ≤ gmin (gmax r 0) 64 ∧ gmin (gmax r 0) 64 ≤ 64 := by unfold gmin gmax; split <;> split <;> omega
 have hiff : ∀ i : Nat, ((i : Int) < gmin (gmax r 0) 64) ↔ ((i : Int) < r ∧ (i : Int) < 64) := by
  intro i; unfold gmin gmax; split <;> split <;> omega
 intro k
 induction k with
 | zero =>
  intro i n h hi hn hh
  obtain ⟨n, rfl⟩ : ∃ k, n = k + 1 := ⟨n - 1, by omega⟩
  have : ((decide ((i : Int) < r)) && (decide ((i : Int) < 64))) = false := by
   rw [← Bool.not_eq_true, Bool.and_eq_true, decide_eq_true_eq, decide_eq_true_eq, ← hiff]; omega
  simp only [ref03_Iterate_L1, this, Bool.false_eq_true, if_false, itN]
 | succ k ih =>
  intro i n h hi hn hh
  obtain ⟨n, rfl⟩ : ∃ k, n = k + 1 := ⟨n - 1, by omega⟩
  have : ((decide ((i : Int) < r)) && (decide ((i : Int) < 64))) = true := by
   rw [Bool.and_eq_true, decide_eq_true_eq, decide_eq_true_eq, ← hiff]; omega
  simp only [ref03_Iterate_L1, this, if_true, itN]
  rw [chk_t (by simp [fitS]; omega), chk_t (by simp [fitS]; omega), ref03_Text_eq _ (by unfold fits; simp; omega), Option.bind_some, w64n (by omega)]
  exact ih (i + 1) n _ (by omega) (by omega) (textS_len _)
theorem ref03_Iterate_eq (salt s : Str) (r : Int) (h1 : salt.length ≤ 1000000) (h2 : s.length ≤ 1000000) : ref03_Iterate salt s r = some (itS salt s r) := by
 unfold ref03_Iterate itS
 rw [chk_t (by simp [fitS]; omega), chk_t (by simp [fitS]; omega), ref03_Text_eq _ (by unfold fits; simp; omega), Option.bind_some]
 have hr : 0 ≤ gmin (gmax r 0) 64 ∧ gmin (gmax r 0) 64 ≤ 64 := by unfold gmin gmax; split <;> split <;> omega
 exact refIter_loop salt h1 r (gmin (gmax r 0) 64).toNat 0 fuel _ (by omega) (by unfold fuel; omega) (textS_len _)
theorem ref22_Check_eq (v : api_Verifier) (p : Str) (hs : fits v.Salt) (hp : fits p) : ref22_Check v p = some (chkS v p) := by
 unfold ref22_Check chkS
 rw [ref22_Valid_eq v hs, Option.bind_some]
 cases h1 : vldS v with
 | false => rfl
 | true =>
  rw [if_pos rfl, ref22_Password_eq p hp]
  cases h2 : pwS p with
  | false => rfl
  | true =>
   have a1 := vldS_salt h1
   have a2 := pwS_len h2
   simp only [Option.bind_some, if_true, ref03_Iterate_eq v.Salt p v.Rounds (by omega) (by omega), Bool.true_and]
theorem put_set {K V : Type} [DecidableEq K] {key : K} {r x : V} : ∀ {l : List (K × V)} {k : Nat}, l[k]? = some (key, r) → (∀ q ∈ l.take k, q.1 ≠ key) → mputL key x l = l.set k (key, x)
 | [], k, h, _ => by simp at h
 | p :: l, 0, h, _ => by
  simp at h; subst h
  simp [mputL]
 | p :: l, k + 1, h, ht => by
  have hp := ht p (by simp)
  unfold mputL
  rw [if_neg (fun e => hp e.symm), put_set (k := k) (by simpa using h) (fun q hq => ht q (by simp [hq]))]
  rfl
theorem del_cut {K V : Type} [DecidableEq K] {key : K} {r : V} : ∀ {l : List (K × V)} {k : Nat}, l[k]? = some (key, r) → (∀ q ∈ l.take k, q.1 ≠ key) → mdelL key l = l.take k ++ l.drop (k + 1)
 | [], k, h, _ => by simp at h
 | p :: l, 0, h, _ => by
  simp at h; subst h
  simp [mdelL]
 | p :: l, k + 1, h, ht => by
  have hp := ht p (by simp)
  unfold mdelL
  rw [if_neg (fun e => hp e.symm), del_cut (k := k) (by simpa using h) (fun q hq => ht q (by simp [hq]))]
  rfl
theorem put_none {K V : Type} [DecidableEq K] {key : K} {x : V} : ∀ {l : List (K × V)}, mfind key l = none → mputL key x l = l ++ [(key, x)]
 | [], _ => rfl
 | p :: l, h => by
  unfold mfind at h
  split at h
  ·cases h
  ·rename_i e
   unfold mputL
   rw [if_neg e, put_none h]; rfl
namespace Otp
def sixL : Nat → Nat → Str
 | 0, _ => []
 | k + 1, m => sixL k (m / 10) ++ [UInt8.ofNat (48 + m % 10)]
def sixS (m : Nat) : Str := sixL 6 m
theorem sixL_len : ∀ k m, (sixL k m).length = k
 | 0, _ => rfl
 | k + 1, m => by simp [sixL, sixL_len k]
theorem sixL_pad : ∀ (k m : Nat), m < 10 ^ k → 1 ≤ k → sixL k m = List.replicate (k - (Lib.decDigits m).length) 48 ++ Lib.decDigits m
 | 0, _, _, h => by omega
 | k + 1, m, h, _ => by
  have hd : m / 10 < 10 ^ k := by rw [Nat.div_lt_iff_lt_mul (by omega)]; rw [Nat.pow_succ] at h; exact h
  by_cases h10 : m < 10
  ·rw [dec_small h10]
   have hz : ∀ k, sixL k 0 = List.replicate k 48 := by
    intro k
    induction k with
    | zero => rfl
    | succ k ih => rw [sixL, List.replicate_succ', show 0 / 10 = 0 from rfl, ih]; rfl
   rw [sixL, show m / 10 = 0 by omega, hz, Nat.mod_eq_of_lt h10]
   simp
  ·have hk : 1 ≤ k := by
    cases k with
    | zero => simp at h; omega
    | succ k => omega
   have hl := dec_len k (m / 10) hd hk
   rw [sixL, sixL_pad k (m / 10) hd hk, dec_big h10]
   simp [show k + 1 - ((Lib.decDigits (m / 10)).length + 1) = k - (Lib.decDigits (m / 10)).length by omega]
theorem dig_u8 : ∀ d : Nat, d < 10 → IntKind.u8.wrap (IntKind.u64.wrap (48 + (d : Int))) = ((UInt8.ofNat (48 + d)).toNat : Int) := by decide
theorem sixL_split : ∀ (t a m : Nat), sixL (t + a) m = sixL t (m / 10 ^ a) ++ sixL a m
 | t, 0, m => by simp [sixL]
 | t, a + 1, m => by
  rw [show t + (a + 1) = (t + a) + 1 by omega, sixL, sixL_split t a (m / 10), sixL, Nat.div_div_eq_div_mul]
  rw [show 10 * 10 ^ a = 10 ^ (a + 1) by rw [Nat.pow_succ, Nat.mul_comm]]
  simp
theorem code_loop (m : Nat) (hm : m < 1000000) : ∀ (k t n : Nat), t + k = 6 → k < n →
  otp_code_L1 n ((m / 10 ^ t : Nat) : Int) (List.replicate (6 - t) 0 ++ (sixL t m).map fun u => (u.toNat : Int)) (t : Int) = some (sixS m) := by
 intro k
 induction k with
 | zero =>
  intro t n ht hn
  obtain ⟨n, rfl⟩ : ∃ k, n = k + 1 := ⟨n - 1, by omega⟩
  have : t = 6 := by omega
  subst this
  have hb : bytesStr ((sixL 6 m).map fun u => (u.toNat : Int)) = sixL 6 m := by
   unfold bytesStr
   rw [List.map_map]
   exact List.map_id'' (fun u => by simp) _
  simp [otp_code_L1, sixL_len, chk, hb, sixS]
 | succ k ih =>
  intro t n ht hn
  obtain ⟨n, rfl⟩ : ∃ k, n = k + 1 := ⟨n - 1, by omega⟩
  have h10 : m / 10 ^ t % 10 < 10 := Nat.mod_lt _ (by omega)
  have e3 : IntKind.i64.wrap (5 - (t : Int)) = ((5 - t : Nat) : Int) := by rw [w64 (by omega) (by omega)]; omega
  have hlen : (List.replicate (6 - t) (0 : Int) ++ (sixL t m).map fun u => (u.toNat : Int)).length = 6 := by simp [sixL_len]; omega
  have hs : sixL (t + 1) m = UInt8.ofNat (48 + m / 10 ^ t % 10) :: sixL t m := by
   rw [Nat.add_comm t 1, sixL_split 1 t m]; simp [sixL]
  have e4 : setAt (List.replicate (6 - t) (0 : Int) ++ (sixL t m).map fun u => (u.toNat : Int)) ((5 - t : Nat) : Int) ((UInt8.ofNat (48 + m / 10 ^ t % 10)).toNat : Int) =
    List.replicate (6 - (t + 1)) (0 : Int) ++ (sixL (t + 1) m).map fun u => (u.toNat : Int) := by
   unfold setAt
   rw [Int.toNat_natCast, show 6 - t = (5 - t) + 1 by omega, List.replicate_succ', List.append_assoc, List.set_append_right _ _ (by simp), hs]
   simp [show 6 - (t + 1) = 5 - t by omega]
  have e5 : IntKind.u64.wrap (((m / 10 ^ t : Nat) : Int).tdiv 10) = ((m / 10 ^ (t + 1) : Nat) : Int) := by
   have h1 := Nat.div_le_self m (10 ^ t)
   rw [tdiv10, wu64 (Int.natCast_nonneg _) (by have h := Nat.div_le_self (m / 10 ^ t) 10; generalize m / 10 ^ t / 10 = q at *; generalize m / 10 ^ t = p at *; omega), Nat.div_div_eq_div_mul, ← Nat.pow_succ]
  have e6 : inb ((5 - t : Nat) : Int) 6 = true := by rw [inb_iff]; omega
  have e7 : inb ((5 - t : Nat) : Int) ((List.replicate (6 - t) (0 : Int) ++ (sixL t m).map fun u => (u.toNat : Int)).length : Nat) = true := by rw [hlen, inb_iff]; omega
  simp only [otp_code_L1, show ((t : Int) < 6) by omega, decide_true, if_true, e3, e6, e7, chk_true, e5, tmod10, dig_u8 _ h10, e4, w64n (show t < 9223372036854775807 by omega)]
  exact ih (t + 1) n (by omega) (by omega)
def codeS (secret : Str) (c : Int) : Str := sixS (sumS (macS secret (Lib.decDigits c.toNat)) % 1000000)
theorem codeS_len (s : Str) (c : Int) : (codeS s c).length = 6 := sixL_len _ _
theorem dec_mid {c : Int} (h0 : 0 ≤ c) (h1 : c ≤ 36650387592) : mid (Lib.decDigits c.toNat) ∧ codec_Int c = some (Lib.decDigits c.toNat) ∧ ref02_Int c = some (Lib.decDigits c.toNat) := by
 obtain ⟨m, rfl⟩ : ∃ m : Nat, c = m := ⟨c.toNat, by omega⟩
 have := dec_len 20 m (by omega) (by omega)
 exact ⟨by unfold mid; simp; omega, codec_Int_eq m (by omega), ref02_Int_eq m (by omega)⟩
theorem mac_fit (k s : Str) : fits (macS k s) := by unfold fits; rw [macS_len]; omega
theorem tmodM (a : Nat) : Int.tmod (a : Int) 1000000 = ((a % 1000000 : Nat) : Int) := by rw [Int.tmod_eq_emod_of_nonneg (by omega)]; omega
theorem otp_code_eq (secret : Str) (c : Int) (hs : mid secret) (h0 : 0 ≤ c) (h1 : c ≤ 36650387592) : otp_code secret c = some (codeS secret c) := by
 obtain ⟨hm, e1, _⟩ := dec_mid h0 h1
 have := code_loop (sumS (macS secret (Lib.decDigits c.toNat)) % 1000000) (Nat.mod_lt _ (by omega)) 6 0 fuel rfl (by unfold fuel; omega)
 simp only [otp_code, e1, Option.bind_some, digest_Mac_eq secret _ hs hm, digest_Sum_eq _ (mac_fit _ _), tmodM]
 simpa [sixL, codeS] using this
theorem six_pad : ∀ (k n : Nat) (s : Str), s.length + k = 6 → k < n → ref23_six_L1 n s = some (List.replicate k 48 ++ s) := by
 intro k
 induction k with
 | zero =>
  intro n s hl hn
  obtain ⟨n, rfl⟩ : ∃ k, n = k + 1 := ⟨n - 1, by omega⟩
  simp [ref23_six_L1, show ¬ ((s.length : Int) < 6) by omega]
 | succ k ih =>
  intro n s hl hn
  obtain ⟨n, rfl⟩ : ∃ k, n = k + 1 := ⟨n - 1, by omega⟩
  have hf : fitS [48] s = true := by simp [fitS]; omega
  simp only [ref23_six_L1, show ((s.length : Int) < 6) by omega, decide_true, if_true, hf, chk_true]
  rw [ih n ([48] ++ s) (by simp; omega) (by omega), List.replicate_succ']
  simp
theorem ref23_six_eq (m : Nat) (hm : m < 1000000) : ref23_six (m : Int) = some (sixS m) := by
 have hl := dec_len 6 m (by omega) (by omega)
 rw [ref23_six, ref02_Int_eq m (by omega), Option.bind_some, six_pad (6 - (Lib.decDigits m).length) fuel _ (by omega) (by unfold fuel; omega), sixS, sixL_pad 6 m (by omega) (by omega)]
def codeR (secret : Str) (c : Int) : Str × Int := if clean secret then (if decide (c < 0) || decide (c > 36650387592) then ([], 27) else (codeS secret c, 0)) else ([], 4)
theorem clean_mid {s : Str} (h : clean s = true) : mid s ∧ s.length ≤ 256 := by
 simp only [clean, Bool.and_eq_true, decide_eq_true_eq] at h
 exact ⟨by unfold mid; omega, h.1.2.2⟩
theorem otp_Code_eq (secret : Str) (c : Int) (hs : fits secret) : otp_Code secret c = some (codeR secret c) := by
 rw [otp_Code, fold_Clean_eq secret hs, codeR, Option.bind_some]
 cases hc : clean secret with
 | false => simp
 | true =>
  simp only [Bool.not_true, Bool.false_eq_true, if_false, if_true]
  by_cases hr : (decide (c < 0) || decide (c > 36650387592)) = true
  ·rw [if_pos hr, if_pos hr]
  ·have hr' := hr
   simp at hr'
   rw [if_neg hr, if_neg hr, otp_code_eq secret c (clean_mid hc).1 (by omega) (by omega)]; rfl
theorem ref23_Code_eq (secret : Str) (c : Int) (hs : fits secret) : ref23_Code secret c = some (codeR secret c) := by
 rw [ref23_Code, ref01_Clean_eq secret hs, codeR, Option.bind_some]
 cases hc : clean secret with
 | false => simp
 | true =>
  simp only [Bool.not_true, Bool.false_eq_true, if_false, if_true]
  by_cases hr : (decide (c < 0) || decide (c > 36650387592)) = true
  ·rw [if_pos hr, if_pos hr]
  ·have hr' := hr
   simp at hr'
   obtain ⟨hm, _, e1⟩ := dec_mid (c := c) (by omega) (by omega)
   have hlt : sumS (macS secret (Lib.decDigits c.toNat)) % 1000000 < 1000000 := Nat.mod_lt _ (by omega)
   rw [if_neg hr, if_neg hr, e1, Option.bind_some, ref03_Mac_eq secret _ (clean_mid hc).1 hm, Option.bind_some, (ref03_Sum_eq _ (mac_fit _ _)).1, Option.bind_some, tmodM, w64 (by omega) (by omega), ref23_six_eq _ hlt]
   rfl
def ctr (now : Int) : Int := lim now / 30
theorem ctr_range (t : Int) : 0 ≤ ctr t ∧ ctr t ≤ 36650387592 := by have := lim_range t; unfold ctr; omega
theorem clock_Add_eq (a b : Int) : clock_Add a b = some (lim (lim a + lim b)) := by
 have h1 := lim_range a; have h2 := lim_range b
 simp only [clock_Add, clock_limited, Option.bind_some]
 show some (gmin (gmax (IntKind.i64.wrap (lim a + lim b)) 0) 1099511627776) = _
 rw [w64 (by omega) (by omega)]; rfl
theorem clock_Add0_eq (a : Int) : clock_Add a 0 = some (lim a) := by rw [clock_Add_eq, lim_0, Int.add_zero, lim_lim]
theorem otp_Counter_eq (t : Int) : otp_Counter t = some (ctr t) := by
 have h := lim_range t
 rw [otp_Counter, clock_Add0_eq, Option.bind_some, Int.tdiv_eq_ediv_of_nonneg h.1, w64 (by omega) (by omega)]; rfl
theorem ref23_Counter_eq (t : Int) : ref23_Counter t = some (ctr t) := by
 have h := lim_range t
 rw [ref23_Counter, ref04_Limit, Option.bind_some, lim_eq, Int.tdiv_eq_ediv_of_nonneg h.1, w64 (by omega) (by omega)]; rfl
def dig (u : UInt8) : Bool := decide (48 ≤ u.toNat) && decide (u.toNat ≤ 57)
def sixd (s : Str) : Bool := s.all dig && decide (s.length = 6)
theorem ref23_possible_eq (s : Str) (hs : fits s) : ref23_possible s = some (sixd s) := by
 have key : ∀ (r : Str) (i n : Nat), s.drop i = r → i ≤ s.length → r.length < n → ref23_possible_L1 n s (i : Int) = some (r.all dig && decide (s.length = 6)) := by
  unfold fits at hs
  intro r
  induction r with
  | nil =>
   intro i n hd hi hn
   obtain ⟨n, rfl⟩ : ∃ k, n = k + 1 := ⟨n - 1, by simp at hn; omega⟩
   have := drop_nil hd
   simp only [ref23_possible_L1, show ¬ ((i : Int) < s.length) by omega, decide_false, Bool.false_eq_true, if_false, List.all_nil, Bool.true_and, Option.some.injEq]
   rw [Bool.eq_iff_iff]; simp; omega
  | cons u r ih =>
   intro i n hd hi hn
   obtain ⟨n, rfl⟩ : ∃ k, n = k + 1 := ⟨n - 1, by simp at hn; omega⟩
   obtain ⟨h1, h2, h3⟩ := drop_more hd
   have hlt := drop_lt hd
   simp only [ref23_possible_L1, show ((i : Int) < s.length) by omega, decide_true, if_true, inb_n, h1, chk_true, byteAt_some h2, w64n (show i < 9223372036854775807 by omega), List.all_cons, ih (i + 1) n h3 (by omega) (by simp at hn; omega)]
   cases hp : dig u with
   | true =>
    simp only [dig, Bool.and_eq_true, decide_eq_true_eq] at hp
    simp [show ¬ ((u.toNat : Int) < 48) by omega, show ¬ (57 < (u.toNat : Int)) by omega]
   | false =>
    simp only [dig, Bool.and_eq_false_iff, decide_eq_false_iff_not] at hp
    by_cases h48 : (u.toNat : Int) < 48
    ·simp [h48]
    ·simp [h48, show (57 < (u.toNat : Int)) by omega]
 exact key s 0 fuel rfl (by omega) (fuel_pos hs)
theorem otp_six_eq (s : Str) (hs : fits s) : otp_six s = some (sixd s) := by
 have key : ∀ (r : Str) (i n : Nat), s.drop i = r → i ≤ s.length → r.length < n →
   ∃ q : Int, slices_IndexFunc_byte_byte__six_1_L1 n (strBytes s) ((strBytes s).length : Int) (i : Int) = some q ∧ decide (q ≥ 0) = !(r.all dig) := by
  unfold fits at hs
  have hsl : (strBytes s).length = s.length := by simp [strBytes]
  intro r
  induction r with
  | nil =>
   intro i n hd hi hn
   obtain ⟨n, rfl⟩ : ∃ k, n = k + 1 := ⟨n - 1, by simp at hn; omega⟩
   have := drop_nil hd
   refine ⟨-1, ?_, by simp⟩
   simp only [slices_IndexFunc_byte_byte__six_1_L1, hsl, show ¬ ((i : Int) < s.length) by omega, decide_false, Bool.false_eq_true, if_false]
  | cons u r ih =>
   intro i n hd hi hn
   obtain ⟨n, rfl⟩ : ∃ k, n = k + 1 := ⟨n - 1, by simp at hn; omega⟩
   obtain ⟨h1, h2, h3⟩ := drop_more hd
   have hlt := drop_lt hd
   have hb : (strBytes s)[i]? = some (u.toNat : Int) := by simp [strBytes, h2]
   obtain ⟨q, hq, hq2⟩ := ih (i + 1) n h3 (by omega) (by simp at hn; omega)
   cases hp : dig u with
   | true =>
    simp only [dig, Bool.and_eq_true, decide_eq_true_eq] at hp
    refine ⟨q, ?_, by simpa [dig, hp] using hq2⟩
    simp only [slices_IndexFunc_byte_byte__six_1_L1, hsl, show ((i : Int) < s.length) by omega, decide_true, if_true, idx_n, hb, Option.bind_some, otp_six_1, show ¬ ((u.toNat : Int) < 48) by omega, show ¬ ((u.toNat : Int) > 57) by omega, decide_false, Bool.or_self, Bool.false_eq_true, if_false, w64n (show i < 9223372036854775807 by omega)]
    rw [hsl] at hq
    exact hq
   | false =>
    have hp' := hp
    simp only [dig, Bool.and_eq_false_iff, decide_eq_false_iff_not] at hp'
    have e : (decide ((u.toNat : Int) < 48) || decide ((u.toNat : Int) > 57)) = true := by simp; omega
    refine ⟨(i : Int), ?_, by simp [hp]⟩
    simp only [slices_IndexFunc_byte_byte__six_1_L1, hsl, show ((i : Int) < s.length) by omega, decide_true, if_true, idx_n, hb, Option.bind_some, otp_six_1, e]
 obtain ⟨q, hq, hq2⟩ := key s 0 fuel rfl (by omega) (fuel_pos hs)
 unfold otp_six sixd
 by_cases hl : s.length = 6
 ·have e1 : ((s.length : Int) == 6) = true := by simp [hl]
  have hf : fitS s [] = true := by simp [fitS]; omega
  have : slices_IndexFunc_byte_byte__six_1 (strBytes s) = some q := hq
  rw [show decide (s.length = 6) = true from decide_eq_true hl, Bool.and_true]
  simp only [e1, if_true, hf, chk_true, slices_ContainsFunc_byte_byte__six_1, this, Option.bind_some, hq2, Bool.not_not]
 ·have e1 : ((s.length : Int) == 6) = false := by simp; omega
  simp [e1, hl]
theorem otp_form_eq (secret s : Str) (h1 : fits secret) (h2 : fits s) : otp_form secret s = some (if clean secret && sixd s then 0 else 4) := by
 rw [otp_form, fold_Clean_eq secret h1, otp_six_eq s h2]
 cases clean secret <;> cases sixd s <;> simp
def srch (secret s : Str) : Nat → Int → Option Int
 | 0, _ => none
 | k + 1, c => if codeS secret c == s then some c else srch secret s k (c + 1)
def pairO : Option Int → Int × Int
 | some c => (c, 0)
 | none => (0, 11)
theorem gmax_id {a b : Int} (h : b ≤ a) : gmax a b = a := by unfold gmax; split <;> omega
theorem search_loop (secret s : Str) (to_ : Int) (hm : mid secret) : ∀ (k n : Nat) (c : Int), 0 ≤ c → c ≤ 36650387593 → (gmin to_ 36650387592 + 1 - c).toNat = k → k < n →
  otp_search__VerifyAt_1_L1 n to_ secret s c = some (pairO (srch secret s k c)) := by
 have hg : gmin to_ 36650387592 ≤ 36650387592 := by unfold gmin; split <;> omega
 intro k
 induction k with
 | zero =>
  intro n c h0 h1 hk hn
  obtain ⟨n, rfl⟩ : ∃ k, n = k + 1 := ⟨n - 1, by omega⟩
  simp [otp_search__VerifyAt_1_L1, show ¬ (c ≤ gmin to_ 36650387592) by omega, srch, pairO]
 | succ k ih =>
  intro n c h0 h1 hk hn
  obtain ⟨n, rfl⟩ : ∃ k, n = k + 1 := ⟨n - 1, by omega⟩
  have hc : c ≤ gmin to_ 36650387592 := by omega
  have ih' := ih n (c + 1) (by omega) (by omega) (by omega) (by omega)
  simp only [otp_search__VerifyAt_1_L1, hc, decide_true, if_true, otp_VerifyAt_1, otp_code_eq secret c hm h0 (by omega), Option.bind_some, srch, w64 (show -9223372036854775808 ≤ c + 1 by omega) (show c + 1 < 9223372036854775808 by omega)]
  cases codeS secret c == s with
  | true => simp [pairO]
  | false => simpa using ih'
theorem first_loop (secret s : Str) (to_ : Int) (hc' : clean secret = true) (hf : fits secret) (hg : to_ ≤ 36650387592) : ∀ (k n : Nat) (c : Int), 0 ≤ c → c ≤ 36650387593 → (to_ + 1 - c).toNat = k → k < n →
  ref23_first_L1 n secret to_ s c = some (pairO (srch secret s k c)) := by
 intro k
 induction k with
 | zero =>
  intro n c h0 h1 hk hn
  obtain ⟨n, rfl⟩ : ∃ k, n = k + 1 := ⟨n - 1, by omega⟩
  simp [ref23_first_L1, show ¬ (c ≤ to_) by omega, srch, pairO]
 | succ k ih =>
  intro n c h0 h1 hk hn
  obtain ⟨n, rfl⟩ : ∃ k, n = k + 1 := ⟨n - 1, by omega⟩
  have hc : c ≤ to_ := by omega
  have ih' := ih n (c + 1) (by omega) (by omega) (by omega) (by omega)
  have hcr : codeR secret c = (codeS secret c, 0) := by
   simp [codeR, hc', show ¬ c < 0 by omega, show ¬ 36650387592 < c by omega]
  simp only [ref23_first_L1, hc, decide_true, if_true, ref23_Code_eq secret c hf, hcr, Option.bind_some, beq_self_eq_true, Bool.true_and, srch, w64 (show -9223372036854775808 ≤ c + 1 by omega) (show c + 1 < 9223372036854775808 by omega)]
  cases codeS secret c == s with
  | true => simp [pairO]
  | false => simpa using ih'
def skw (skew : Int) : Int := gmin (gmax skew 0) 600 / 30
theorem skw_range (x : Int) : 0 ≤ skw x ∧ skw x ≤ 20 := by unfold skw gmin gmax; repeat' split <;> omega
def atR (secret : Str) (last now skew : Int) (s : Str) : Int × Int :=
 if clean secret && sixd s then (if decide (last < -1) || decide (last > 36650387592) then (0, 27) else
  pairO (srch secret s (gmin (ctr now + skw skew) 36650387592 + 1 - gmax (last + 1) (ctr now - skw skew)).toNat (gmax (last + 1) (ctr now - skw skew)))) else (0, 4)
theorem skw_eq1 (x : Int) : IntKind.i64.wrap ((gmin (gmax x 0) 600).tdiv 30) = skw x := by
 have h : 0 ≤ gmin (gmax x 0) 600 := by unfold gmin gmax; repeat' split <;> omega
 have h2 := skw_range x
 rw [Int.tdiv_eq_ediv_of_nonneg h, w64 (by unfold skw at h2; omega) (by unfold skw at h2; omega)]; rfl
theorem skw_eq2 (x : Int) : IntKind.i64.wrap ((gmax 0 (gmin x 600)).tdiv 30) = skw x := by
 rw [show gmax 0 (gmin x 600) = gmin (gmax x 0) 600 by unfold gmin gmax; repeat' split <;> omega, skw_eq1]
theorem gmax_ge {a b : Int} : a ≤ gmax a b ∧ b ≤ gmax a b ∧ (gmax a b = a ∨ gmax a b = b) := by unfold gmax; split <;> omega
theorem gmin_le {a b : Int} : gmin a b ≤ a ∧ gmin a b ≤ b ∧ (gmin a b = a ∨ gmin a b = b) := by unfold gmin; split <;> omega
theorem otp_VerifyAt_eq (secret : Str) (last now skew : Int) (s : Str) (h1 : fits secret) (h2 : fits s) : otp_VerifyAt secret last now skew s = some (atR secret last now skew s) := by
 rw [otp_VerifyAt, otp_form_eq secret s h1 h2, atR, Option.bind_some]
 cases hc : clean secret with
 | false => simp
 | true =>
  cases hs : sixd s with
  | false => simp
  | true =>
   simp only [Bool.and_self, if_true, bne_self_eq_false, Bool.false_eq_true, if_false]
   by_cases hr : (decide (last < -1) || decide (last > 36650387592)) = true
   ·rw [if_pos hr, if_pos hr]
   ·have hr' := hr
    simp at hr'
    have c1 := ctr_range now; have c2 := skw_range skew
    have g1 := @gmax_ge (last + 1) (ctr now - skw skew); have g2 := @gmin_le (ctr now + skw skew) 36650387592
    have := (search_loop secret s (ctr now + skw skew) (clean_mid hc).1 _ fuel (gmax (last + 1) (ctr now - skw skew)) (by omega) (by omega) rfl (fuel_big (by omega)))
    rw [if_neg hr, if_neg hr, otp_Counter_eq, Option.bind_some, Option.bind_some, skw_eq1, w64 (show -9223372036854775808 ≤ last + 1 by omega) (by omega), w64 (show -9223372036854775808 ≤ ctr now - skw skew by omega) (by omega), w64 (show -9223372036854775808 ≤ ctr now + skw skew by omega) (by omega),
     otp_search__VerifyAt_1, gmax_id (show 0 ≤ gmax (last + 1) (ctr now - skw skew) by omega), this]
    simp
theorem ref23_VerifyAt_eq (secret : Str) (last now skew : Int) (s : Str) (h1 : fits secret) (h2 : fits s) : ref23_VerifyAt secret last now skew s = some (atR secret last now skew s) := by
 rw [ref23_VerifyAt, ref01_Clean_eq secret h1, ref23_possible_eq s h2, atR, Option.bind_some]
 cases hc : clean secret with
 | false => simp
 | true =>
  cases hs : sixd s with
  | false => simp
  | true =>
   simp only [Bool.not_true, Bool.false_eq_true, if_false, Option.bind_some, Bool.and_self, if_true]
   by_cases hr : (decide (last < -1) || decide (last > 36650387592)) = true
   ·rw [if_pos hr, if_pos hr]
   ·have hr' := hr
    simp at hr'
    have c1 := ctr_range now; have c2 := skw_range skew
    have g1 := @gmax_ge (last + 1) (ctr now - skw skew); have g2 := @gmin_le (ctr now + skw skew) 36650387592
    have := first_loop secret s (gmin (ctr now + skw skew) 36650387592) hc h1 (by omega) _ fuel (gmax (last + 1) (ctr now - skw skew)) (by omega) (by omega) rfl (fuel_big (by omega))
    rw [if_neg hr, if_neg hr, ref23_Counter_eq, Option.bind_some, Option.bind_some, skw_eq2, w64 (show -9223372036854775808 ≤ last + 1 by omega) (by omega), w64 (show -9223372036854775808 ≤ ctr now - skw skew by omega) (by omega), w64 (show -9223372036854775808 ≤ ctr now + skw skew by omega) (by omega),
     ref23_first, this]
    simp
end Otp
theorem opt_cases {α : Type} (o : Option α) : o = none ∨ ∃ r, o = some r := by cases o <;> simp
theorem bind_id {α : Type} (X : Option α) : (X.bind fun z => some z) = X := by cases X <;> rfl
def addS (a b : Int) : Int := lim (lim a + lim b)
theorem clock_Add_eq (a b : Int) : clock_Add a b = some (addS a b) := by
 unfold clock_Add addS
 have h1 := lim_range a
 have h2 := lim_range b
 have e : ∀ t, clock_limited t = some (lim t) := fun t => rfl
 rw [e, e, Option.bind_some, Option.bind_some, w64 (by omega) (by omega), e, Option.bind_some]
theorem ref04_Add_eq (a b : Int) : ref04_Add a b = some (addS a b) := by
 unfold ref04_Add addS
 have h1 := lim_range a
 have h2 := lim_range b
 have e : ∀ t, ref04_Limit t = some (lim t) := fun t => by unfold ref04_Limit; rw [lim_eq]
 rw [e, e, Option.bind_some, Option.bind_some, w64 (by omega) (by omega), e, Option.bind_some]
theorem addS_0 (a : Int) : addS a 0 = lim a := by
 unfold addS
 have : lim 0 = 0 := rfl
 rw [this, Int.add_zero, lim_lim]
theorem rlim_eq (t : Int) : ref22_Limited t = some (lim t) := by unfold ref22_Limited; rw [lim_eq]
abbrev LL := List (Str × secret_record)
def one (w now t : Int) : Bool := decide (t ≤ now) && decide (now - t < w)
def cnt (w : Int) (ts : List Int) (now : Int) : Int := ((ts.filter (one w now)).length : Int)
structure goodR (r : secret_record) : Prop where
 len : r.times.length ≤ 256
 rng : ∀ t ∈ r.times, 0 ≤ t ∧ t ≤ 1099511627776
def zr : secret_record := ⟨[], 0⟩
theorem goodR_z : goodR zr := ⟨by simp [zr], fun t h => by simp [zr] at h⟩
theorem cnt_nil (w now : Int) : cnt w [] now = 0 := rfl
theorem count_eq (k : secret_Locks) (r : secret_record) (now : Int) (hr : ∀ t ∈ r.times, 0 ≤ t ∧ t ≤ 1099511627776) (hl : r.times.length ≤ 1000) (hn : 0 ≤ now ∧ now ≤ 1099511627776) : secret_Locks_count k r now = some (cnt k.window r.times now) := by
 have key : ∀ (s : List Int) (i n : Nat) (c : Nat), r.times.drop i = s → s.length < n → c ≤ i → secret_Locks_count_L1 n k now (c : Int) r.times (r.times.length : Int) (i : Int) = some ((c : Int) + cnt k.window s now) := by
  intro s
  induction s with
  | nil =>
   intro i n c hd hn hc
   obtain ⟨n, rfl⟩ : ∃ k, n = k + 1 := ⟨n - 1, by simp at hn; omega⟩
   have := drop_nil hd
   unfold secret_Locks_count_L1
   rw [if_neg (by simp; omega), cnt_nil, Int.add_zero]
  | cons x s ih =>
   intro i n c hd hn' hc
   obtain ⟨n, rfl⟩ : ∃ k, n = k + 1 := ⟨n - 1, by simp at hn'; omega⟩
   obtain ⟨h1, h2, h3⟩ := drop_more hd
   have hlt := drop_lt hd
   have hx := hr x (List.mem_of_getElem? h2)
   have hc1 : one k.window now x = (decide (x ≤ now) && decide (now - x < k.window)) := rfl
   unfold secret_Locks_count_L1
   rw [if_pos (by simp; omega), idx_n, h2, Option.bind_some, w64 (x := now - x) (by omega) (by omega), ← hc1]
   unfold secret_Locks_count_B2
   rw [w64n (show i < 9223372036854775807 by omega)]
   by_cases ho : one k.window now x = true
   ·rw [if_pos ho]
    have e : IntKind.i64.wrap ((c : Int) + 1) = ((c + 1 : Nat) : Int) := w64n (by omega)
    rw [e, ih (i + 1) n (c + 1) h3 (by simp at hn'; omega) (by omega)]
    unfold cnt
    rw [List.filter_cons, if_pos ho]
    simp only [List.length_cons]
    congr 1; omega
   ·rw [if_neg ho, ih (i + 1) n c h3 (by simp at hn'; omega) (by omega)]
    unfold cnt
    rw [List.filter_cons, if_neg ho]
 unfold secret_Locks_count
 have := key r.times 0 fuel 0 rfl (by unfold fuel; omega) (by omega)
 rw [show ((0 : Nat) : Int) = 0 from rfl, Int.zero_add] at this
 exact this
def tsF (ts : List Int) (t : Int) : List Int := if (ts ++ [t]).length > 256 then (ts ++ [t]).drop 1 else ts ++ [t]
def failR (most w lock : Int) (r : secret_record) (t : Int) : secret_record :=
 if t < r.until_ ∨ cnt w (tsF r.times t) t ≥ most then ⟨tsF r.times t, gmax r.until_ (addS t lock)⟩ else ⟨tsF r.times t, r.until_⟩
def failL (most w lock : Int) (l : LL) (u : Str) (now : Int) : LL :=
 if word u = false then l else if mfind u l = none ∧ 256 ≤ l.length then l else mputL u (failR most w lock ((mfind u l).getD zr) (lim now)) l
theorem tsF_len {ts : List Int} {t : Int} (h : ts.length ≤ 256) : (tsF ts t).length ≤ 256 := by
 unfold tsF
 split
 ·simp; omega
 ·simp at *; omega
theorem tsF_mem {ts : List Int} {t x : Int} (h : x ∈ tsF ts t) : x ∈ ts ∨ x = t := by
 unfold tsF at h
 split at h
 ·have := List.mem_of_mem_drop h
  simpa using this
 ·simpa using h
structure InvL (l : LL) : Prop where
 nd : nodupK l
 len : l.length ≤ 256
 good : ∀ p ∈ l, goodR p.2
theorem invL_nil : InvL [] := ⟨nodupK_nil, by simp, fun p h => by cases h⟩
theorem goodR_fail {r : secret_record} (h : goodR r) (most w lock now : Int) : goodR (failR most w lock r (lim now)) := by
 have hl := tsF_len (t := lim now) h.len
 have hm : ∀ t ∈ tsF r.times (lim now), 0 ≤ t ∧ t ≤ 1099511627776 := fun t ht => by
  rcases tsF_mem ht with ht | rfl
  ·exact h.rng t ht
  ·exact lim_range now
 unfold failR
 split
 ·exact ⟨hl, hm⟩
 ·exact ⟨hl, hm⟩
theorem InvL.get {l : LL} (h : InvL l) (u : Str) : goodR ((mfind u l).getD zr) := by
 rcases opt_cases (mfind u l) with e | ⟨r, e⟩
 ·rw [e]; exact goodR_z
 ·rw [e]; exact h.good _ (mfind_mem e)
theorem invL_fail {l : LL} (h : InvL l) (most w lock : Int) (u : Str) (now : Int) : InvL (failL most w lock l u now) := by
 unfold failL
 split
 ·exact h
 split
 ·exact h
 ·rename_i h1
  refine ⟨nodupK_put h.nd, ?_, fun p hp => ?_⟩
  ·rw [len_put]
   have := h.len
   split
   ·exact this
   ·rename_i hs
    rcases opt_cases (mfind u l) with e | ⟨r, e⟩
    ·have : ¬ 256 ≤ l.length := fun h' => h1 ⟨e, h'⟩
     omega
    ·rw [e] at hs; simp at hs
  ·rcases mem_put hp with rfl | hp
   ·exact goodR_fail (h.get u) _ _ _ _
   ·exact h.good p hp
theorem put_put {k : Str} {x y : secret_record} : ∀ l : LL, mputL k x (mputL k y l) = mputL k x l
 | [] => by simp [mputL]
 | p :: l => by
  by_cases e : k = p.1
  ·simp only [mputL, if_pos e, if_true]
  ·simp only [mputL, if_neg e, put_put l]
theorem mgetP_some (l : LL) (u : Str) : mgetP (some l) u = mfind u l := rfl
theorem mput_some (l : LL) (u : Str) (x : secret_record) : mput (some l) u x = some (mputL u x l) := rfl
theorem mlen_some {K V : Type} (l : List (K × V)) : mlen (some l) = (l.length : Int) := by unfold mlen; simp
theorem fail_two (most w lock : Int) (l : LL) (u : Str) (ts : List Int) (unt t : Int) (b : Bool) (hts : ts.length ≤ 256) (hr : ∀ x ∈ ts, 0 ≤ x ∧ x ≤ 1099511627776) (ht : 0 ≤ t ∧ t ≤ 1099511627776) :
  secret_Locks_Fail_B2 ⟨most, w, lock, some (mputL u ⟨ts, unt⟩ l)⟩ t b u = some ⟨most, w, lock, some (mputL u (if b = true ∨ cnt w ts t ≥ most then ⟨ts, gmax unt (addS t lock)⟩ else ⟨ts, unt⟩) l)⟩ := by
 have hg : mgetP (some (mputL u ⟨ts, unt⟩ l)) u = some ⟨ts, unt⟩ := by rw [mgetP_some, mfind_put_self]
 have hc : secret_Locks_count ⟨most, w, lock, some (mputL u ⟨ts, unt⟩ l)⟩ ⟨ts, unt⟩ t = some (cnt w ts t) := count_eq _ _ _ hr (by simp only; omega) ht
 have e : (if b = true then some true else some (decide (cnt w ts t ≥ most))) = some (b || decide (cnt w ts t ≥ most)) := by cases b <;> rfl
 unfold secret_Locks_Fail_B2
 simp only [hg, Option.bind_some, hc, clock_Add_eq, mput_some, put_put]
 rw [e, Option.bind_some]
 by_cases h : b = true ∨ cnt w ts t ≥ most
 ·rw [if_pos (by simpa using h), if_pos h]
 ·rw [if_neg (by simpa using h), if_neg h]
theorem fail_one (most w lock : Int) (l : LL) (u : Str) (r : secret_record) (hr : goodR r) (now : Int) (h : mfind u l = some r) :
  secret_Locks_Fail_B1 ⟨most, w, lock, some l⟩ now u = some ⟨most, w, lock, some (mputL u (failR most w lock r (lim now)) l)⟩ := by
 have hl := hr.len
 have hlim := lim_range now
 have hts := tsF_len (t := lim now) hl
 have hm : ∀ t ∈ tsF r.times (lim now), 0 ≤ t ∧ t ≤ 1099511627776 := fun t ht => by
  rcases tsF_mem ht with ht | rfl
  ·exact hr.rng t ht
  ·exact lim_range now
 have two := fail_two most w lock l u (tsF r.times (lim now)) r.until_ (lim now) (decide (lim now < r.until_)) hts hm hlim
 have e : (if decide (lim now < r.until_) = true ∨ cnt w (tsF r.times (lim now)) (lim now) ≥ most then (⟨tsF r.times (lim now), gmax r.until_ (addS (lim now) lock)⟩ : secret_record) else ⟨tsF r.times (lim now), r.until_⟩) = failR most w lock r (lim now) := by
  unfold failR; simp only [decide_eq_true_eq]
 rw [e] at two
 unfold secret_Locks_Fail_B1
 rw [clock_Add_eq, addS_0, Option.bind_some, mgetP_some, h, Option.bind_some, chk_t (by simp [fitL]; omega)]
 simp only [mput_some]
 unfold tsF at two
 by_cases hc : (r.times ++ [lim now]).length > 256
 ·rw [if_pos hc] at two
  have hin : inc 1 ((r.times ++ [lim now]).length : Nat) (r.times ++ [lim now]).length = true := by
   have := inc_n (i := 1) (j := (r.times ++ [lim now]).length) (n := (r.times ++ [lim now]).length)
   rw [show (((1 : Nat) : Int)) = 1 from rfl] at this
   rw [this]; simp
  have hcut : cut (r.times ++ [lim now]) 1 ((r.times ++ [lim now]).length : Nat) = (r.times ++ [lim now]).drop 1 := by
   have := cut_n (r.times ++ [lim now]) 1 (r.times ++ [lim now]).length
   rw [show (((1 : Nat) : Int)) = 1 from rfl] at this
   rw [this, List.take_of_length_le]
   rw [List.length_drop]; omega
  rw [if_pos (by rw [decide_eq_true_eq]; omega), chk_t hin, hcut]
  exact two
 ·rw [if_neg hc] at two
  rw [if_neg (by rw [decide_eq_true_eq]; omega)]
  exact two
theorem fail_eq (most w lock : Int) {l : LL} (h : InvL l) (u : Str) (now : Int) (hu : fits u) : secret_Locks_Fail ⟨most, w, lock, some l⟩ u now = some ⟨most, w, lock, some (failL most w lock l u now)⟩ := by
 have hl := h.len
 unfold secret_Locks_Fail failL
 have hm : (some l : GMap Str secret_record).isNone = false := rfl
 have hs : (some l : GMap Str secret_record).isSome = true := rfl
 simp only [hm, Bool.false_eq_true, if_false, fold_Word_eq u hu, Option.bind_some, mgetP_some, mlen_some, mput_some, put_put]
 cases hw : word u with
 | false => simp
 | true =>
  rw [Bool.not_true, if_neg (show ¬ (false = true) by simp), if_neg (show ¬ (true = false) by simp)]
  rcases opt_cases (mfind u l) with e | ⟨r, e⟩
  ·rw [e]
   by_cases h6 : 256 ≤ l.length
   ·rw [if_pos (show (none : Option secret_record).isNone = true from rfl), if_pos (by rw [decide_eq_true_eq]; omega), if_pos ⟨rfl, h6⟩]
   ·rw [if_pos (show (none : Option secret_record).isNone = true from rfl), if_neg (by rw [decide_eq_true_eq]; omega), if_neg (fun h => h6 h.2), chk_t hs]
    have := fail_one most w lock (mputL u zr l) u zr goodR_z now mfind_put_self
    rw [put_put] at this
    exact this
  ·rw [e, if_neg (by simp), if_neg (show ¬ (some r = none ∧ 256 ≤ l.length) by simp)]
   exact fail_one most w lock l u r (by have := h.get u; rw [e] at this; exact this) now e
def lockedS (l : LL) (u : Str) (now : Int) : Bool := match mfind u l with | none => false | some r => decide (lim now < r.until_)
def failsS (w : Int) (l : LL) (u : Str) (now : Int) : Int := match mfind u l with | none => 0 | some r => cnt w r.times (lim now)
theorem locked_eq (most w lock : Int) (l : LL) (u : Str) (now : Int) : secret_Locks_Locked ⟨most, w, lock, some l⟩ u now = some (lockedS l u now) := by
 unfold secret_Locks_Locked lockedS
 simp only [mgetP_some, clock_Add_eq, addS_0, Option.bind_some]
 rcases opt_cases (mfind u l) with e | ⟨r, e⟩ <;> rw [e] <;> rfl
theorem clear_eq (most w lock : Int) (l : LL) (u : Str) : secret_Locks_Clear ⟨most, w, lock, some l⟩ u = some ⟨most, w, lock, some (mdelL u l)⟩ := rfl
theorem invL_del {l : LL} (h : InvL l) (u : Str) : InvL (mdelL u l) := by
 refine ⟨nodupK_del h.nd, ?_, fun p hp => h.good p (mem_del hp)⟩
 have := len_del (k := u) h.nd
 have := h.len
 omega
def newE (most window lock : Int) : Bool := ((decide (most < 1) || decide (most > 256)) || decide (lim window < 1)) || decide (lim lock < 1)
theorem new_eq (most window lock : Int) : secret_NewLocks most window lock = some (if newE most window lock then (none, 2) else (some ⟨most, lim window, lim lock, some []⟩, 0)) := by
 unfold secret_NewLocks newE
 rw [clock_Add_eq, clock_Add_eq, addS_0, addS_0, Option.bind_some, Option.bind_some]
 split <;> rfl
abbrev toRec (p : Str × secret_record) : ref22_record := ⟨p.1, p.2.times, p.2.until_⟩
abbrev rk (most w lock : Int) (l : LL) : ref22_Locks := ⟨true, most, w, lock, l.map toRec⟩
theorem rnew_eq (most window lock : Int) : ref22_NewLocks most window lock = some (if newE most window lock then (none, 2) else (some (rk most (lim window) (lim lock) []), 0)) := by
 unfold ref22_NewLocks newE
 rw [rlim_eq, rlim_eq, Option.bind_some, Option.bind_some]
 split <;> rfl
structure AtL (l : LL) (u : Str) (k : Nat) (r : secret_record) : Prop where
 get : l[k]? = some (u, r)
 pre : ∀ q ∈ l.take k, q.1 ≠ u
theorem AtL.lt {l : LL} {u : Str} {k : Nat} {r : secret_record} (h : AtL l u k r) : k < l.length := (List.getElem?_eq_some_iff.1 h.get).1
theorem AtL.ix {l : LL} {u : Str} {k : Nat} {r : secret_record} (h : AtL l u k r) : idx (l.map toRec) (k : Int) = some (toRec (u, r)) := by rw [idx_n, List.getElem?_map, h.get]; rfl
theorem AtL.put {l : LL} {u : Str} {k : Nat} {r x : secret_record} (h : AtL l u k r) : setAt (l.map toRec) (k : Int) (toRec (u, x)) = (mputL u x l).map toRec := by
 rw [put_set h.get h.pre, List.map_set]
 simp [setAt]
theorem AtL.next {l : LL} {u : Str} {k : Nat} {r : secret_record} (h : AtL l u k r) (x : secret_record) : AtL (mputL u x l) u k x := by
 have hlt := h.lt
 rw [put_set h.get h.pre]
 refine ⟨by rw [List.getElem?_set_self hlt], fun q hq => ?_⟩
 rw [List.take_set_of_le (Nat.le_refl _)] at hq
 exact h.pre q hq
theorem rfind_loop (most w lock : Int) (l : LL) (u : Str) (hl : l.length ≤ 1000) : ∀ (s : LL) (j n : Nat), l.drop j = s → s.length < n → (∀ q ∈ l.take j, q.1 ≠ u) →
  (∃ (k : Nat) (x : secret_record), ref22_Locks_find_L1 n (rk most w lock l) u (j : Int) = some (k : Int) ∧ AtL l u k x) ∨ (ref22_Locks_find_L1 n (rk most w lock l) u (j : Int) = some (-1) ∧ ∀ q ∈ l, q.1 ≠ u) := by
 intro s
 induction s with
 | nil =>
  intro j n hd hn ht
  obtain ⟨n, rfl⟩ : ∃ k, n = k + 1 := ⟨n - 1, by simp at hn; omega⟩
  have := drop_nil hd
  rw [List.take_of_length_le this] at ht
  refine .inr ⟨?_, ht⟩
  simp only [ref22_Locks_find_L1, List.length_map, show ¬ ((j : Int) < l.length) by omega, decide_false, Bool.false_eq_true, if_false]
 | cons x s ih =>
  intro j n hd hn ht
  obtain ⟨n, rfl⟩ : ∃ k, n = k + 1 := ⟨n - 1, by simp at hn; omega⟩
  obtain ⟨h1, h2, h3⟩ := drop_more hd
  have hlt := drop_lt hd
  have e : ref22_Locks_find_L1 (n + 1) (rk most w lock l) u (j : Int) = if x.1 == u then some (j : Int) else ref22_Locks_find_L1 n (rk most w lock l) u ((j + 1 : Nat) : Int) := by
   simp only [ref22_Locks_find_L1, List.length_map, show ((j : Int) < l.length) by omega, decide_true, if_true, idx_n, List.getElem?_map, h2, Option.map_some, Option.bind_some, w64n (show j < 9223372036854775807 by omega)]
  rw [e]
  by_cases hx : (x.1 == u) = true
  ·rw [if_pos hx]
   simp only [beq_iff_eq] at hx
   refine .inl ⟨j, x.2, rfl, ?_, ht⟩
   rw [h2, ← hx]
  ·rw [if_neg hx]
   refine ih (j + 1) n h3 (by simp at hn; omega) fun q hq => ?_
   rw [take_more hd] at hq
   rcases List.mem_append.1 hq with hq | hq
   ·exact ht q hq
   ·simp at hq; subst hq
    simpa using hx
theorem rfind (most w lock : Int) {l : LL} (h : InvL l) (u : Str) :
  (∃ (k : Nat) (x : secret_record), ref22_Locks_find (rk most w lock l) u = some (k : Int) ∧ AtL l u k x ∧ mfind u l = some x) ∨ (ref22_Locks_find (rk most w lock l) u = some (-1) ∧ mfind u l = none) := by
 have hl := h.len
 rcases rfind_loop most w lock l u (by omega) l 0 fuel rfl (by unfold fuel; omega) (by simp) with ⟨k, x, h1, h2⟩ | ⟨h1, h2⟩
 ·exact .inl ⟨k, x, h1, h2, mfind_of_mem h.nd (List.mem_of_getElem? h2.get)⟩
 ·exact .inr ⟨h1, mfind_none.2 h2⟩
theorem rmade_eq (most w lock : Int) (l : LL) : ref22_Locks_Made (rk most w lock l) = some true := rfl
theorem rlocked_eq (most w lock : Int) {l : LL} (h : InvL l) (u : Str) (now : Int) : ref22_Locks_Locked (rk most w lock l) u now = some (lockedS l u now) := by
 unfold ref22_Locks_Locked lockedS
 rw [rmade_eq, Option.bind_some, if_neg (by simp), rlim_eq]
 rcases rfind most w lock h u with ⟨k, x, f1, f2, f3⟩ | ⟨f1, f2⟩
 ·rw [f1, Option.bind_some, if_pos (by simp), Option.bind_some, f2.ix, Option.bind_some, f3]; rfl
 ·rw [f1, Option.bind_some, if_neg (by decide), f2]; rfl
theorem rfailures_at (most w lock : Int) (l : LL) (u : Str) (k : Nat) (r : secret_record) (hk : AtL l u k r) (hr : goodR r) (now : Int) (hn : 0 ≤ now ∧ now ≤ 1099511627776) :
  ∀ (s : List Int) (j n : Nat) (c : Nat), r.times.drop j = s → s.length < n → c ≤ j → ref22_Locks_Failures_L1 n (rk most w lock l) now (k : Int) (c : Int) (j : Int) = some ((c : Int) + cnt w s now) := by
 intro s
 have hl := hr.len
 induction s with
 | nil =>
  intro j n c hd hn' hc
  obtain ⟨n, rfl⟩ : ∃ k, n = k + 1 := ⟨n - 1, by simp at hn'; omega⟩
  have := drop_nil hd
  unfold ref22_Locks_Failures_L1
  rw [if_pos (by simp), hk.ix, Option.bind_some, Option.bind_some, if_neg (by simp; omega), cnt_nil, Int.add_zero]
 | cons x s ih =>
  intro j n c hd hn' hc
  obtain ⟨n, rfl⟩ : ∃ k, n = k + 1 := ⟨n - 1, by simp at hn'; omega⟩
  obtain ⟨h1, h2, h3⟩ := drop_more hd
  have hlt := drop_lt hd
  have hx := hr.rng x (List.mem_of_getElem? h2)
  have hix : idx r.times (j : Int) = some x := by rw [idx_n, h2]
  have hc1 : one w now x = (decide (x ≤ now) && decide (now - x < w)) := rfl
  unfold ref22_Locks_Failures_L1
  rw [if_pos (by simp), hk.ix, Option.bind_some, Option.bind_some, if_pos (by simp; omega), Option.bind_some]
  simp only [hix, Option.bind_some]
  rw [w64 (x := now - x) (by omega) (by omega), ← hc1]
  unfold ref22_Locks_Failures_B2
  rw [w64n (show j < 9223372036854775807 by omega)]
  by_cases ho : one w now x = true
  ·rw [if_pos ho]
   have e : IntKind.i64.wrap ((c : Int) + 1) = ((c + 1 : Nat) : Int) := w64n (by omega)
   rw [e, ih (j + 1) n (c + 1) h3 (by simp at hn'; omega) (by omega)]
   unfold cnt
   rw [List.filter_cons, if_pos ho]
   simp only [List.length_cons]
   congr 1; omega
  ·rw [if_neg ho, ih (j + 1) n c h3 (by simp at hn'; omega) (by omega)]
   unfold cnt
   rw [List.filter_cons, if_neg ho]
theorem rfailures_eq (most w lock : Int) {l : LL} (h : InvL l) (u : Str) (now : Int) : ref22_Locks_Failures (rk most w lock l) u now = some (failsS w l u now) := by
 unfold ref22_Locks_Failures failsS
 rw [rmade_eq, Option.bind_some, if_neg (by simp), rlim_eq, Option.bind_some]
 rcases rfind most w lock h u with ⟨k, x, f1, f2, f3⟩ | ⟨f1, f2⟩
 ·have hg := h.good _ (mfind_mem f3)
  have hgl := hg.len
  have hF : x.times.length < fuel := by unfold fuel; simp only at hgl; omega
  have := rfailures_at most w lock l u k x f2 hg (lim now) (lim_range now) x.times 0 fuel 0 rfl hF (by omega)
  rw [show ((0 : Nat) : Int) = 0 from rfl, Int.zero_add] at this
  rw [f1, Option.bind_some, this, f3]
 ·rw [f1, Option.bind_some, f2]
  obtain ⟨k, hk⟩ : ∃ k, fuel = k + 1 := ⟨fuel - 1, by unfold fuel; omega⟩
  rw [hk]
  unfold ref22_Locks_Failures_L1
  rw [if_neg (by decide)]; rfl
theorem rclear_eq (most w lock : Int) {l : LL} (h : InvL l) (u : Str) : ref22_Locks_Clear (rk most w lock l) u = some (rk most w lock (mdelL u l)) := by
 unfold ref22_Locks_Clear
 have hl := h.len
 rw [rmade_eq, Option.bind_some, if_neg (by simp)]
 rcases rfind most w lock h u with ⟨k, x, h1, h2, h3⟩ | ⟨h1, h2⟩
 ·have hk := h2.lt
  rw [h1, Option.bind_some, if_pos (by simp), del_cut h2.get h2.pre, w64n (show k < 9223372036854775807 by omega), chk_t (by rw [inc_0]; simp; omega), cut_0, chk_t (by simp [fitL]; omega), chk_t (by rw [inc_n]; simp; omega), cut_n, chk_t (by simp [fitL]; omega)]
  rw [List.take_of_length_le (l := (l.map toRec).drop (k + 1)) (by simp)]
  simp [List.map_take, List.map_drop]
 ·rw [h1, Option.bind_some, if_neg (by decide), del_none h2]
theorem cut_tail (ts : List Int) (t : Int) (h : ts.length ≤ 256) : inc (gmax 0 (IntKind.i64.wrap ((((ts ++ [t]).length : Nat) : Int) - 256))) ((ts ++ [t]).length : Nat) (ts ++ [t]).length = true ∧ cut (ts ++ [t]) (gmax 0 (IntKind.i64.wrap ((((ts ++ [t]).length : Nat) : Int) - 256))) ((ts ++ [t]).length : Nat) = tsF ts t := by
 have hn : (ts ++ [t]).length ≤ 257 := by simp; omega
 have e : gmax 0 (IntKind.i64.wrap ((((ts ++ [t]).length : Nat) : Int) - 256)) = (((ts ++ [t]).length - 256 : Nat) : Int) := by
  rw [w64 (by omega) (by omega)]
  unfold gmax
  split <;> omega
 rw [e, inc_n, cut_n, List.take_of_length_le (by rw [List.length_drop]; omega)]
 refine ⟨by rw [decide_eq_true_eq]; omega, ?_⟩
 unfold tsF
 by_cases hc : (ts ++ [t]).length > 256
 ·rw [if_pos hc, show (ts ++ [t]).length - 256 = 1 by omega]
 ·rw [if_neg hc, show (ts ++ [t]).length - 256 = 0 by omega, List.drop_zero]
theorem rfail_one (most w lock : Int) {l : LL} (h : InvL l) (u : Str) (k : Nat) (r : secret_record) (hk : AtL l u k r) (hr : goodR r) (now : Int) :
  ref22_Locks_Fail_B1 (rk most w lock l) u (lim now) (k : Int) = some (rk most w lock (mputL u (failR most w lock r (lim now)) l)) := by
 have hl := hr.len
 obtain ⟨c1, c2⟩ := cut_tail r.times (lim now) hl
 have hm : ∀ t ∈ tsF r.times (lim now), 0 ≤ t ∧ t ≤ 1099511627776 := fun t ht => by
  rcases tsF_mem ht with ht | rfl
  ·exact hr.rng t ht
  ·exact lim_range now
 have hfnd : mfind u l = some r := mfind_of_mem h.nd (List.mem_of_getElem? hk.get)
 have hI : InvL (mputL u ⟨tsF r.times (lim now), r.until_⟩ l) := by
  refine ⟨nodupK_put h.nd, by rw [len_put, hfnd]; exact h.len, fun p hp => ?_⟩
  rcases mem_put hp with rfl | hp
  ·exact ⟨tsF_len hl, hm⟩
  ·exact h.good p hp
 have hf : ref22_Locks_Failures (rk most w lock (mputL u ⟨tsF r.times (lim now), r.until_⟩ l)) u (lim now) = some (cnt w (tsF r.times (lim now)) (lim now)) := by
  rw [rfailures_eq most w lock hI]
  unfold failsS
  rw [mfind_put_self, lim_lim]
 have hp1 : setAt (l.map toRec) (k : Int) (ref22_record.mk u (tsF r.times (lim now)) r.until_) = (mputL u ⟨tsF r.times (lim now), r.until_⟩ l).map toRec := hk.put (x := ⟨tsF r.times (lim now), r.until_⟩)
 have hix2 := (hk.next ⟨tsF r.times (lim now), r.until_⟩).ix
 have hp2 : setAt ((mputL u ⟨tsF r.times (lim now), r.until_⟩ l).map toRec) (k : Int) (ref22_record.mk u (tsF r.times (lim now)) (gmax r.until_ (addS (lim now) lock))) = (mputL u ⟨tsF r.times (lim now), gmax r.until_ (addS (lim now) lock)⟩ l).map toRec := by
  have := (hk.next ⟨tsF r.times (lim now), r.until_⟩).put (x := ⟨tsF r.times (lim now), gmax r.until_ (addS (lim now) lock)⟩)
  rw [put_put] at this
  exact this
 have e0 : (if decide (lim now < r.until_) = true then some true else some (decide (cnt w (tsF r.times (lim now)) (lim now) ≥ most))) = some (decide (lim now < r.until_) || decide (cnt w (tsF r.times (lim now)) (lim now) ≥ most)) := by cases decide (lim now < r.until_) <;> rfl
 unfold ref22_Locks_Fail_B1
 simp only [hk.ix, Option.bind_some, List.nil_append]
 rw [chk_t (by simp [fitL]; omega), chk_t (by simp [fitL]; omega), chk_t c1]
 simp only [c2, hp1, hf, hix2, ref04_Add_eq, Option.bind_some, hp2]
 rw [e0, Option.bind_some]
 unfold failR
 by_cases hc : lim now < r.until_ ∨ cnt w (tsF r.times (lim now)) (lim now) ≥ most
 ·rw [if_pos (by simpa using hc), if_pos hc]
 ·rw [if_neg (by simpa using hc), if_neg hc]
theorem rfail_eq (most w lock : Int) {l : LL} (h : InvL l) (u : Str) (now : Int) (hu : fits u) : ref22_Locks_Fail (rk most w lock l) u now = some (rk most w lock (failL most w lock l u now)) := by
 have hl := h.len
 unfold ref22_Locks_Fail failL
 rw [rmade_eq, Option.bind_some]
 simp only [Bool.not_true, Bool.false_eq_true, if_false, ref01_Word_eq u hu, Option.bind_some, rlim_eq]
 cases hw : word u with
 | false => simp
 | true =>
  rw [Bool.not_true, if_neg (show ¬ (false = true) by simp), if_neg (show ¬ (true = false) by simp)]
  rcases rfind most w lock h u with ⟨k, x, f1, f2, f3⟩ | ⟨f1, f2⟩
  ·rw [f1, Option.bind_some, if_neg (by rw [decide_eq_true_eq]; omega), f3, if_neg (show ¬ (some x = none ∧ 256 ≤ l.length) by simp)]
   exact rfail_one most w lock h u k x f2 (h.good _ (mfind_mem f3)) now
  ·rw [f1, Option.bind_some, if_pos (by decide), f2]
   by_cases h6 : 256 ≤ l.length
   ·rw [if_pos (by rw [decide_eq_true_eq, List.length_map]; omega), if_pos ⟨rfl, h6⟩]
   ·rw [if_neg (by rw [decide_eq_true_eq, List.length_map]; omega), if_neg (show ¬ ((none : Option secret_record) = none ∧ 256 ≤ l.length) from fun h => h6 h.2), chk_t (by simp [fitL]; omega)]
    have e1 : (l.map toRec) ++ ([ref22_record.mk u [] 0] : List ref22_record) = (mputL u zr l).map toRec := by rw [put_none f2]; simp [zr]
    have hI : InvL (mputL u zr l) := by
     refine ⟨nodupK_put h.nd, by rw [len_put, f2]; simp; omega, fun p hp => ?_⟩
     rcases mem_put hp with rfl | hp
     ·exact goodR_z
     ·exact h.good p hp
    have hA : AtL (mputL u zr l) u l.length zr := by
     rw [put_none f2]
     refine ⟨by simp, fun q hq => ?_⟩
     rw [List.take_left] at hq
     exact mfind_none.1 f2 q hq
    have e2 : IntKind.i64.wrap ((((l.map toRec ++ ([ref22_record.mk u [] 0] : List ref22_record)).length : Nat) : Int) - 1) = (l.length : Int) := by
     rw [List.length_append, List.length_map]
     simp only [List.length_cons, List.length_nil]
     rw [w64 (by omega) (by omega)]; omega
    have := rfail_one most w lock hI u l.length zr hA goodR_z now
    rw [put_put] at this
    rw [e2]
    simp only [e1]
    exact this
theorem alive39 : law39_alive = some true := by kernel_rfl
end Go.KW.S
