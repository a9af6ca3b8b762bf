/- Own work: a part of the proofs of this seat. -/
import Derived.Test.YtangcaaneobhnaaGreatDoorKwPlain
import Derived.Test.YtangcaaneobhnaaGreatDoorKwMapP
import Derived.Test.YtangcaaneobhnaaGreatDoorKwGZS
import Derived.KernelRfl
import Derived.Laws.RangeString
import Derived.Laws.RangeAny
set_option linter.unusedVariables false
set_option linter.unusedSimpArgs false
namespace Go.KW.S
open Go Go.KW
/-! ### words -/
def isW (c : Int) : Bool := (((decide (c ≥ 65) && decide (c ≤ 90)) || (decide (c ≥ 97) && decide (c ≤ 122))) || (decide (c ≥ 48) && decide (c ≤ 57))) || c == 45 || c == 95 || c == 46 || c == 58
def word (s : Str) : Bool := s.all (fun u => isW u.toNat) && (decide (1 ≤ s.length) && decide (s.length ≤ 64))

theorem fold_Word_1_eq (c : Int) : fold_Word_1 c = some (isW c) := by
  simp only [fold_Word_1, fold_letter, fold_upper, fold_digit, isW, Option.bind_some]
  cases (decide (c ≥ 65) && decide (c ≤ 90)) <;> cases (decide (c ≥ 97) && decide (c ≤ 122)) <;> simp
theorem fold_made_eq (s : Str) (hs : fits s) : fold_made__Word_1 s = some (word s) := by
  have key : ∀ (r : Str) (i n : Nat), s.drop i = r → i ≤ s.length → r.length < n →
      fold_made__Word_1_L1 n s (s.length : Int) (i : Int) = some (r.all (fun u => isW u.toNat) && (decide (1 ≤ s.length) && decide (s.length ≤ 64))) := by
    intro r
    induction r with
    | nil =>
      intro i n hd hi hn
      obtain ⟨n, rfl⟩ : ∃ k, n = k + 1 := ⟨n - 1, by simp at hn; omega⟩
      have := drop_nil hd
      simp only [fold_made__Word_1_L1, show ¬ ((i : Int) < s.length) by omega, decide_false, Bool.false_eq_true, if_false, List.all_nil, Bool.true_and, Option.some.injEq]
      rw [Bool.eq_iff_iff]; cases s <;> simp <;> omega
    | cons u r ih =>
      intro i n hd hi hn
      obtain ⟨n, rfl⟩ : ∃ k, n = k + 1 := ⟨n - 1, by simp at hn; omega⟩
      obtain ⟨h1, h2, h3⟩ := drop_more hd
      have hlt := drop_lt hd
      have := hs; unfold fits at this
      simp only [fold_made__Word_1_L1, show ((i : Int) < s.length) by omega, decide_true, if_true, inb_n, h1, chk_true, byteAt_some h2, fold_Word_1_eq, Option.bind_some, w64n (show i < 9223372036854775807 by omega), List.all_cons]
      cases isW u.toNat with
      | false => simp
      | true => simpa using ih (i + 1) n h3 (by omega) (by simp at hn; omega)
  exact key s 0 fuel rfl (by omega) (fuel_pos hs)
theorem fold_Word_eq (s : Str) (hs : fits s) : fold_Word s = some (word s) := by
  simp [fold_Word, fold_made_eq s hs]

theorem ref01_Word_eq (s : Str) (hs : fits s) : ref01_Word s = some (word s) := by
  have key : ∀ (r : Str) (i n : Nat), s.drop i = r → i ≤ s.length → r.length < n →
      ref01_Word_L1 n s (i : Int) = some (r.all (fun u => isW u.toNat) && (decide (1 ≤ s.length) && decide (s.length ≤ 64))) := by
    intro r
    induction r with
    | nil =>
      intro i n hd hi hn
      obtain ⟨n, rfl⟩ : ∃ k, n = k + 1 := ⟨n - 1, by simp at hn; omega⟩
      have := drop_nil hd
      simp only [ref01_Word_L1, show ¬ ((i : Int) < s.length) by omega, decide_false, Bool.false_eq_true, if_false, List.all_nil, Bool.true_and, Option.some.injEq]
      rw [Bool.eq_iff_iff]; simp; omega
    | cons u r ih =>
      intro i n hd hi hn
      obtain ⟨n, rfl⟩ : ∃ k, n = k + 1 := ⟨n - 1, by simp at hn; omega⟩
      obtain ⟨h1, h2, h3⟩ := drop_more hd
      have hlt := drop_lt hd
      have := hs; unfold fits at this
      have ih' := ih (i + 1) n h3 (by omega) (by simp at hn; omega)
      have e : isW u.toNat = ((((((decide ((u.toNat : Int) ≥ 65) && decide ((u.toNat : Int) ≤ 90)) || (decide ((u.toNat : Int) ≥ 97) && decide ((u.toNat : Int) ≤ 122))) || (decide ((u.toNat : Int) ≥ 48) && decide ((u.toNat : Int) ≤ 57))) || (u.toNat : Int) == 45) || (u.toNat : Int) == 95) || (u.toNat : Int) == 46 || (u.toNat : Int) == 58) := by
        simp [isW, Bool.or_assoc]
      simp only [ref01_Word_L1, show ((i : Int) < s.length) by omega, decide_true, if_true, inb_n, h1, chk_true, byteAt_some h2, ref01_letter, ref01_digit, Option.bind_some, w64n (show i < 9223372036854775807 by omega), List.all_cons, ih', e, bne]
      generalize (r.all fun u => isW u.toNat) = q
      generalize (decide ((u.toNat : Int) ≥ 97) && decide ((u.toNat : Int) ≤ 122)) = a
      generalize (decide ((u.toNat : Int) ≥ 65) && decide ((u.toNat : Int) ≤ 90)) = b
      generalize (decide ((u.toNat : Int) ≥ 48) && decide ((u.toNat : Int) ≤ 57)) = c
      generalize ((u.toNat : Int) == 45) = d
      generalize ((u.toNat : Int) == 95) = e1
      generalize ((u.toNat : Int) == 46) = f
      generalize ((u.toNat : Int) == 58) = g
      cases a <;> cases b <;> cases c <;> cases d <;> cases e1 <;> cases f <;> cases g <;> simp
  exact key s 0 fuel rfl (by omega) (fuel_pos hs)
/-! ### values: printable strings -/
def prt (u : UInt8) : Bool := decide (32 ≤ u.toNat) && decide (u.toNat ≤ 126)
def clean (s : Str) : Bool := s.all prt && (decide (1 ≤ s.length) && decide (s.length ≤ 256)) && (!(s.head? == some 32) && !(s.getLast? == some 32))
theorem dw_len (p : UInt8 → Bool) (l : Str) : (l.dropWhile p).length ≤ l.length := (List.dropWhile_suffix p).length_le
theorem trimB_eq (s : Str) : ((Lib.trimB s 32 == s) = (!(s.head? == some 32) && !(s.getLast? == some 32))) ∨ s = [] := by
  cases s with
  | nil => exact .inr rfl
  | cons a r =>
    refine .inl ?_
    rw [Bool.eq_iff_iff]
    simp only [beq_iff_eq, Bool.and_eq_true, Bool.not_eq_true', beq_eq_false_iff_ne, ne_eq]
    have hr : ∀ l : Str, (Lib.trimRightB l 32).length ≤ l.length := fun l => by
      unfold Lib.trimRightB
      rw [List.length_reverse]
      exact Nat.le_trans (dw_len _ _) (by simp)
    have hl : ∀ l : Str, (Lib.trimLeftB l 32).length ≤ l.length := fun l => dw_len _ _
    constructor
    · intro h
      have h1 : (Lib.trimRightB (a :: r) 32).length = (a :: r).length := by
        have e := congrArg List.length h
        unfold Lib.trimB at e
        have := hr (a :: r); have := hl (Lib.trimRightB (a :: r) 32)
        omega
      have h2 : Lib.trimRightB (a :: r) 32 = a :: r := by
        unfold Lib.trimRightB at h1 ⊢
        rw [List.length_reverse] at h1
        have hs := List.dropWhile_suffix (fun x : UInt8 => x == 32) (l := (a :: r).reverse)
        have := hs.eq_of_length (by rw [h1]; simp)
        rw [this, List.reverse_reverse]
      unfold Lib.trimB at h
      rw [h2] at h
      refine ⟨fun e => ?_, fun e => ?_⟩
      · simp at e
        subst e
        unfold Lib.trimLeftB at h
        have e2 := congrArg List.length h
        simp only [List.dropWhile_cons, beq_self_eq_true, if_true] at e2
        have := dw_len (fun x : UInt8 => x == 32) r
        simp at e2; omega
      · unfold Lib.trimRightB at h2
        have e3 : (a :: r).reverse.dropWhile (fun x => x == 32) = (a :: r).reverse := by rw [← List.reverse_reverse ((a :: r).reverse.dropWhile fun x => x == 32), h2]
        rw [List.getLast?_eq_head?_reverse] at e
        cases hrv : (a :: r).reverse with
        | nil => simp at hrv
        | cons b q =>
          rw [hrv] at e e3
          simp at e
          subst e
          have e2 := congrArg List.length e3
          simp only [List.dropWhile_cons, beq_self_eq_true, if_true] at e2
          have := dw_len (fun x : UInt8 => x == 32) q
          simp at e2; omega
    · rintro ⟨h1, h2⟩
      have e1 : Lib.trimRightB (a :: r) 32 = a :: r := by
        unfold Lib.trimRightB
        rw [List.getLast?_eq_head?_reverse] at h2
        cases hrv : (a :: r).reverse with
        | nil => simp at hrv
        | cons b q =>
          rw [hrv] at h2
          have hb : (b == 32) = false := by simpa using h2
          rw [List.dropWhile_cons, hb]
          simp only [Bool.false_eq_true, if_false]
          rw [← hrv, List.reverse_reverse]
      unfold Lib.trimB
      rw [e1]
      have ha : (a == 32) = false := by simpa using h1
      simp [Lib.trimLeftB, List.dropWhile_cons, ha]
theorem sdec_low {s : Str} {p : Nat} {u : UInt8} (h : s[p]? = some u) (hu : u.toNat < 128) : sdec s p = ((u.toNat : Int), 1) := by
  obtain ⟨h1, h2⟩ := List.getElem?_eq_some_iff.1 h
  have hs : p < (⟨s.toArray⟩ : ByteArray).size := by rw [str_size]; exact h1
  have hget : (⟨s.toArray⟩ : ByteArray)[p]'hs = u := by rw [← h2]; rfl
  have := decode_ascii ⟨s.toArray⟩ p hs (by rw [hget]; exact hu)
  unfold sdec
  rw [this, hget]
theorem sdec_high {s : Str} {p : Nat} {u : UInt8} (h : s[p]? = some u) (hu : 128 ≤ u.toNat) : 128 ≤ (sdec s p).1 := by
  obtain ⟨h1, h2⟩ := List.getElem?_eq_some_iff.1 h
  have hs : p < (⟨s.toArray⟩ : ByteArray).size := by rw [str_size]; exact h1
  have hget : (⟨s.toArray⟩ : ByteArray)[p]'hs = u := by rw [← h2]; rfl
  have := (decode_high ⟨s.toArray⟩ p hs (by rw [hget]; exact hu)).1
  unfold sdec
  show (128 : Int) ≤ (((Utf8.decode ⟨s.toArray⟩ p).1 : Nat) : Int)
  omega
theorem fold_Trim_eq (s : Str) (hs : fits s) : fold_Trim s = some (Lib.trimB s 32) := by
  unfold fits at hs
  simp [fold_Trim, lib_Trim, chk, show s.length ≤ 9223372036854775807 by omega]
theorem fold_Clean_eq (s : Str) (hs : fits s) : fold_Clean s = some (clean s) := by
  have fin : Option.bind (if (!(s == ([] : Str))) && (decide ((s.length : Int) ≤ 256)) then (fold_Trim s).bind fun y33 => some (y33 == s) else some false) (fun z28 => some z28) =
      some ((decide (1 ≤ s.length) && decide (s.length ≤ 256)) && (!(s.head? == some 32) && !(s.getLast? == some 32))) := by
    rw [fold_Trim_eq s hs]
    rcases trimB_eq s with h | h
    · simp only [Option.bind_some, h]
      cases s with
      | nil => simp
      | cons a r =>
        have e1 : (!(a :: r == ([] : Str))) = true := rfl
        have e2 : decide ((((a :: r).length : Nat) : Int) ≤ 256) = decide ((a :: r).length ≤ 256) := by rw [decide_eq_decide]; omega
        have e3 : decide (1 ≤ (a :: r).length) = true := by simp
        rw [e1, e2, e3]
        cases decide ((a :: r).length ≤ 256) <;> simp
    · subst h; simp
  have key : ∀ (r : Str) (i n : Nat), s.drop i = r → i ≤ s.length → r.length < n →
      fold_Clean_L1 n s s i = some (r.all prt && ((decide (1 ≤ s.length) && decide (s.length ≤ 256)) && (!(s.head? == some 32) && !(s.getLast? == some 32)))) := by
    intro r
    induction r with
    | nil =>
      intro i n hd hi hn
      obtain ⟨n, rfl⟩ : ∃ k, n = k + 1 := ⟨n - 1, by simp at hn; omega⟩
      have := drop_nil hd
      simp only [fold_Clean_L1, show ¬ (i < s.length) by omega, decide_false, Bool.false_eq_true, if_false, List.all_nil, Bool.true_and]
      exact fin
    | cons u r ih =>
      intro i n hd hi hn
      obtain ⟨n, rfl⟩ : ∃ k, n = k + 1 := ⟨n - 1, by simp at hn; omega⟩
      obtain ⟨h1, h2, h3⟩ := drop_more hd
      have hlt := drop_lt hd
      have hih := ih (i + 1) n h3 (by omega) (by simp at hn; omega)
      simp only [fold_Clean_L1, hlt, decide_true, if_true, List.all_cons]
      by_cases hu : u.toNat < 128
      · rw [sdec_low h2 hu]
        cases hp : prt u with
        | true =>
          simp only [prt, Bool.and_eq_true, decide_eq_true_eq] at hp
          have e1 : ¬ ((u.toNat : Int) < 32) := by omega
          have e2 : ¬ ((u.toNat : Int) > 126) := by omega
          simp only [e1, e2, decide_false, Bool.or_self, Bool.false_eq_true, if_false, Bool.true_and]
          exact hih
        | false =>
          have : (u.toNat : Int) < 32 ∨ (u.toNat : Int) > 126 := by
            simp only [prt, Bool.and_eq_false_iff, decide_eq_false_iff_not] at hp
            omega
          have e : (decide ((u.toNat : Int) < 32) || decide ((u.toNat : Int) > 126)) = true := by simpa using this
          simp only [e, if_true, Bool.false_and]
      · have hh := sdec_high h2 (by omega)
        have e : decide ((sdec s i).1 > 126) = true := by simp; omega
        have hp : prt u = false := by simp [prt]; omega
        simp only [e, Bool.or_true, if_true, hp, Bool.false_and]
  have := key s 0 fuel rfl (by omega) (fuel_pos hs)
  rw [fold_Clean, this]
  simp [clean, Bool.and_assoc]
theorem ref01_Clean_eq (s : Str) (hs : fits s) : ref01_Clean s = some (clean s) := by
  have key : ∀ (r : Str) (i n : Nat), s.drop i = r → i ≤ s.length → r.length < n → ref01_Clean_L1 n s (i : Int) = some (r.all prt) := by
    unfold fits at hs
    intro r
    induction r with
    | nil =>
      intro i n hd hi hn
      obtain ⟨n, rfl⟩ : ∃ k, n = k + 1 := ⟨n - 1, by simp at hn; omega⟩
      have := drop_nil hd
      simp [ref01_Clean_L1, show ¬ ((i : Int) < s.length) by omega]
    | cons u r ih =>
      intro i n hd hi hn
      obtain ⟨n, rfl⟩ : ∃ k, n = k + 1 := ⟨n - 1, by simp at hn; omega⟩
      obtain ⟨h1, h2, h3⟩ := drop_more hd
      have hlt := drop_lt hd
      simp only [ref01_Clean_L1, show ((i : Int) < s.length) by omega, decide_true, if_true, inb_n, h1, chk_true, byteAt_some h2, w64n (show i < 9223372036854775807 by omega), List.all_cons, ih (i + 1) n h3 (by omega) (by simp at hn; omega)]
      cases hp : prt u with
      | true =>
        simp only [prt, Bool.and_eq_true, decide_eq_true_eq] at hp
        simp [show ¬ ((u.toNat : Int) < 32) by omega, show ¬ ((u.toNat : Int) > 126) by omega, show ¬ (126 < (u.toNat : Int)) by omega]
      | false =>
        simp only [prt, Bool.and_eq_false_iff, decide_eq_false_iff_not] at hp
        by_cases h32 : (u.toNat : Int) < 32
        · simp [h32]
        · simp [h32, show (126 < (u.toNat : Int)) by omega]
  unfold ref01_Clean clean
  cases s with
  | nil => simp
  | cons a r =>
    have h1 := key (a :: r) 0 fuel rfl (by omega) (fuel_pos hs)
    by_cases hl : (a :: r).length ≤ 256
    · have e1 : (decide ((((a :: r).length : Nat) : Int) < 1) || decide ((((a :: r).length : Nat) : Int) > 256)) = false := by simp at hl ⊢; omega
      have e2 : inb 0 ((((a :: r).length : Nat)) : Int) = true := by simp only [inb, List.length_cons, Bool.and_eq_true, decide_eq_true_eq]; omega
      have e3 : IntKind.i64.wrap ((((a :: r).length : Nat) : Int) - 1) = ((((a :: r).length - 1 : Nat)) : Int) := by
        have := hl
        simp only [List.length_cons] at this ⊢
        rw [w64 (by omega) (by omega)]; omega
      have e4 : byteAt (a :: r) 0 = (a.toNat : Int) := by simp [byteAt]
      obtain ⟨z, hz⟩ : ∃ z, (a :: r).getLast? = some z := ⟨(a :: r).getLast (by simp), List.getLast?_eq_some_getLast (by simp)⟩
      have e5 : byteAt (a :: r) (((a :: r).length - 1 : Nat) : Int) = (z.toNat : Int) := by
        have : (a :: r)[(a :: r).length - 1]? = some z := by rw [← List.getLast?_eq_getElem?]; exact hz
        exact byteAt_some this
      have e6 : inb ((((a :: r).length - 1 : Nat)) : Int) (((a :: r).length : Nat) : Int) = true := by simp only [inb, List.length_cons, Bool.and_eq_true, decide_eq_true_eq]; omega
      have h32 : ∀ u : UInt8, ((u.toNat : Int) == 32) = (u == 32) := fun u => by
        rw [Bool.eq_iff_iff, beq_iff_eq, beq_iff_eq]
        constructor
        · intro h; exact UInt8.toNat_inj.1 (by have : u.toNat = 32 := by omega
                                               simpa using this)
        · intro h; subst h; rfl
      simp only [e1, Bool.false_eq_true, if_false, e2, chk_true, e4, e3, e6, e5, Option.bind_some, h32, hz, List.head?_cons, show decide (1 ≤ (a :: r).length) = true by simp, hl, decide_true, Bool.true_and, Bool.and_true]
      have q1 : (some a == some (32 : UInt8)) = (a == 32) := rfl
      have q2 : (some z == some (32 : UInt8)) = (z == 32) := rfl
      rw [q1, q2]
      cases a == 32 with
      | true => simp
      | false =>
        cases z == 32 with
        | true => simp
        | false => simpa using h1
    · have e1 : (decide ((((a :: r).length : Nat) : Int) < 1) || decide ((((a :: r).length : Nat) : Int) > 256)) = true := by simp at hl ⊢; omega
      simp only [e1, if_true, Option.bind_some, hl, decide_false, Bool.and_false, Bool.false_and]
/-! ### decimals -/
theorem dec_small {m : Nat} (h : m < 10) : Lib.decDigits m = [UInt8.ofNat (48 + m)] := by rw [Lib.decDigits, dif_pos h]
theorem dec_big {m : Nat} (h : ¬ m < 10) : Lib.decDigits m = Lib.decDigits (m / 10) ++ [UInt8.ofNat (48 + m % 10)] := by rw [Lib.decDigits, dif_neg h]
theorem dec_len : ∀ (k m : Nat), m < 10 ^ k → 1 ≤ k → (Lib.decDigits m).length ≤ k
  | 0, _, _, h => by omega
  | k + 1, m, h, _ => by
    by_cases h10 : m < 10
    · rw [dec_small h10]; simp
    · rw [dec_big h10]
      have hk : 1 ≤ k := by
        cases k with
        | zero => simp at h; omega
        | succ k => omega
      have := dec_len k (m / 10) (by rw [Nat.div_lt_iff_lt_mul (by omega)]; rw [Nat.pow_succ] at h; exact h) hk
      simp; omega
/-- the digits, none of nought -/
def dd (m : Nat) : Str := if m = 0 then [] else Lib.decDigits m
theorem dd_step {m : Nat} (h : m ≠ 0) : dd m = dd (m / 10) ++ [UInt8.ofNat (48 + m % 10)] := by
  unfold dd
  rw [if_neg h]
  by_cases h10 : m < 10
  · rw [dec_small h10, if_pos (by omega), Nat.mod_eq_of_lt h10]; rfl
  · rw [dec_big h10, if_neg (by omega)]
theorem chr_all : ∀ d : Nat, d < 10 → bytesStr ([IntKind.u8.wrap (IntKind.i64.wrap (48 + (d : Int)))] : List Int) = [UInt8.ofNat (48 + d)] := by decide
theorem chr_eq {d : Nat} (h : d < 10) : bytesStr ([IntKind.u8.wrap (IntKind.i64.wrap (48 + (d : Int)))] : List Int) = [UInt8.ofNat (48 + d)] := chr_all d h
theorem tmod16 (a : Nat) : Int.tmod (a : Int) 16 = ((a % 16 : Nat) : Int) := by rw [Int.tmod_eq_emod_of_nonneg (by omega)]; omega
theorem tdiv16 (a : Nat) : (a : Int).tdiv 16 = ((a / 16 : Nat) : Int) := by rw [Int.tdiv_eq_ediv_of_nonneg (by omega)]; omega
theorem ref02_loop : ∀ (k m n : Nat) (out : Str) (n0 : Int), 0 ≤ n0 → m < 10 ^ k → m < 9223372036854775808 → out.length + k ≤ 100 → k < n → ref02_Int_L1 n n0 out (m : Int) = some (dd m ++ out) := by
  intro k
  induction k with
  | zero =>
    intro m n out n0 h0 hm _ _ hn
    obtain ⟨n, rfl⟩ : ∃ k, n = k + 1 := ⟨n - 1, by omega⟩
    have : m = 0 := by simpa using hm
    subst this
    simp [ref02_Int_L1, dd, show ¬ n0 < 0 by omega]
  | succ k ih =>
    intro m n out n0 h0 hm h63 hl hn
    obtain ⟨n, rfl⟩ : ∃ k, n = k + 1 := ⟨n - 1, by omega⟩
    by_cases hz : m = 0
    · subst hz
      simp [ref02_Int_L1, dd, show ¬ n0 < 0 by omega]
    · have e1 : ((m : Int) != 0) = true := by simp; omega
      have e2 : Int.tmod (m : Int) 10 = ((m % 10 : Nat) : Int) := by rw [Int.tmod_eq_emod_of_nonneg (by omega)]; omega
      have e3 : (m : Int).tdiv 10 = ((m / 10 : Nat) : Int) := by rw [Int.tdiv_eq_ediv_of_nonneg (by omega)]; omega
      have e4 : ¬ (((m % 10 : Nat) : Int) < 0) := by omega
      have e5 : IntKind.i64.wrap ((m / 10 : Nat) : Int) = ((m / 10 : Nat) : Int) := w64 (by omega) (by omega)
      have h10 : m % 10 < 10 := Nat.mod_lt _ (by omega)
      have hf : fitS [UInt8.ofNat (48 + m % 10)] out = true := by simp [fitS]; omega
      have hd : m / 10 < 10 ^ k := by rw [Nat.div_lt_iff_lt_mul (by omega)]; rw [Nat.pow_succ] at hm; exact hm
      simp only [ref02_Int_L1, e1, if_true, e2, e4, decide_false, Bool.false_eq_true, if_false, ref02_Int_B2, chr_eq h10, hf, chk_true, e3, e5]
      rw [ih (m / 10) n _ n0 h0 hd (by omega) (by simp; omega) (by omega), dd_step hz]
      simp
theorem ref02_Int_eq (m : Nat) (h : m < 9223372036854775808) : ref02_Int (m : Int) = some (Lib.decDigits m) := by
  unfold ref02_Int
  by_cases hz : m = 0
  · subst hz; simp [dec_small]
  · have e1 : ((m : Int) == 0) = false := by simp; omega
    rw [e1]
    have := ref02_loop 20 m fuel [] (m : Int) (by omega) (by omega) h (by simp) (by unfold fuel; omega)
    simp only [Bool.false_eq_true, if_false, this, List.append_nil]
    unfold dd
    rw [if_neg hz]
theorem lib_Itoa_eq (m : Nat) (h : m < 9223372036854775808) : lib_Itoa (m : Int) = some (Lib.decDigits m) := by
  unfold lib_Itoa
  rw [chk_t (by simp; omega), itoaS_eq (by omega) (by omega)]
  unfold Lib.itoa
  rw [if_neg (by omega)]
  simp
theorem codec_Int_eq (m : Nat) (h : m < 9223372036854775808) : codec_Int (m : Int) = some (Lib.decDigits m) := by simp [codec_Int, lib_Itoa_eq m h]
/-! ### digests, without the reference -/
theorem wrap_u64_range (x : Int) : 0 ≤ IntKind.u64.wrap x ∧ IntKind.u64.wrap x < 18446744073709551616 := by
  simp [IntKind.wrap, IntKind.bits, IntKind.signed]; omega
theorem bXor_range (a b : Int) : 0 ≤ bXor .u64 a b ∧ bXor .u64 a b < 18446744073709551616 := wrap_u64_range _
def sumL : Int → Str → Int
  | h, [] => h
  | h, u :: r => sumL (IntKind.u64.wrap ((bXor .u64 h (IntKind.u64.wrap (u.toNat : Int))) * 1099511628211)) r
def sumF (h : Int) : Int := bXor .u64 (IntKind.u64.wrap ((bXor .u64 (IntKind.u64.wrap ((bXor .u64 h (bShr .u64 h 33)) * 18397679294719823053)) (bShr .u64 (IntKind.u64.wrap ((bXor .u64 h (bShr .u64 h 33)) * 18397679294719823053)) 33)) * 14181476777654086739)) (bShr .u64 (IntKind.u64.wrap ((bXor .u64 (IntKind.u64.wrap ((bXor .u64 h (bShr .u64 h 33)) * 18397679294719823053)) (bShr .u64 (IntKind.u64.wrap ((bXor .u64 h (bShr .u64 h 33)) * 18397679294719823053)) 33)) * 14181476777654086739)) 33)
/-- the digest of a string -/
def sumS (s : Str) : Nat := (sumF (sumL 14695981039346656037 s)).toNat
theorem sumF_range (h : Int) : 0 ≤ sumF h ∧ sumF h < 18446744073709551616 := bXor_range _ _
theorem sumS_lt (s : Str) : sumS s < 18446744073709551616 := by have := sumF_range (sumL 14695981039346656037 s); unfold sumS; omega
theorem sumS_int (s : Str) : (sumS s : Int) = sumF (sumL 14695981039346656037 s) := Int.toNat_of_nonneg (sumF_range _).1
theorem dsum_loop (s : Str) (hs : fits s) : ∀ (r : Str) (i n : Nat) (h : Int), s.drop i = r → i ≤ s.length → r.length < n →
    digest_Sum_L1 n s h (s.length : Int) (i : Int) = some (sumF (sumL h r)) := by
  unfold fits at hs
  intro r
  induction r with
  | nil =>
    intro i n h hd hi hn
    obtain ⟨n, rfl⟩ : ∃ k, n = k + 1 := ⟨n - 1, by simp at hn; omega⟩
    have := drop_nil hd
    simp only [digest_Sum_L1, show ¬ ((i : Int) < s.length) by omega, decide_false, Bool.false_eq_true, if_false]
    rfl
  | cons u r ih =>
    intro i n h hd hi hn
    obtain ⟨n, rfl⟩ : ∃ k, n = k + 1 := ⟨n - 1, by simp at hn; omega⟩
    obtain ⟨h1, h2, h3⟩ := drop_more hd
    have hlt := drop_lt hd
    simp only [digest_Sum_L1, show ((i : Int) < s.length) by omega, decide_true, if_true, inb_n, h1, chk_true, w64n (show i < 9223372036854775807 by omega), byteAt_some h2, sumL]
    exact ih (i + 1) n _ h3 (by omega) (by simp at hn; omega)
theorem digest_Sum_eq (s : Str) (hs : fits s) : digest_Sum s = some (sumS s : Int) := by
  rw [sumS_int]; exact dsum_loop s hs s 0 fuel _ rfl (by omega) (fuel_pos hs)
theorem rsum_loop (s : Str) (hs : fits s) : ∀ (r : Str) (i n : Nat) (h : Int), s.drop i = r → i ≤ s.length → r.length < n →
    ref03_Sum_L1 n s h (i : Int) = some (sumF (sumL h r)) := by
  unfold fits at hs
  intro r
  induction r with
  | nil =>
    intro i n h hd hi hn
    obtain ⟨n, rfl⟩ : ∃ k, n = k + 1 := ⟨n - 1, by simp at hn; omega⟩
    have := drop_nil hd
    simp only [ref03_Sum_L1, show ¬ ((i : Int) < s.length) by omega, decide_false, Bool.false_eq_true, if_false]
    rfl
  | cons u r ih =>
    intro i n h hd hi hn
    obtain ⟨n, rfl⟩ : ∃ k, n = k + 1 := ⟨n - 1, by simp at hn; omega⟩
    obtain ⟨h1, h2, h3⟩ := drop_more hd
    have hlt := drop_lt hd
    simp only [ref03_Sum_L1, show ((i : Int) < s.length) by omega, decide_true, if_true, inb_n, h1, chk_true, w64n (show i < 9223372036854775807 by omega), byteAt_some h2, sumL]
    exact ih (i + 1) n _ h3 (by omega) (by simp at hn; omega)
theorem ref03_Sum_eq (s : Str) (hs : fits s) : ref03_Sum s = some (sumS s : Int) ∧ sumS s < 18446744073709551616 :=
  ⟨by rw [sumS_int]; exact rsum_loop s hs s 0 fuel _ rfl (by omega) (fuel_pos hs), sumS_lt s⟩
theorem ten_cut : ∀ m : Nat, m < 10 → (([48, 49, 50, 51, 52, 53, 54, 55, 56, 57] : Str).drop m).take 1 = [UInt8.ofNat (48 + m)] := by decide
theorem ref03_decimal_eq : ∀ (k f m : Nat), 1 ≤ k → k ≤ f → m < 10 ^ k → m < 9223372036854775808 → ref03_decimal f (m : Int) = some (Lib.decDigits m) := by
  intro k
  induction k with
  | zero => intro f m h; omega
  | succ k ih =>
    intro f m _ hf hm h63
    obtain ⟨f, rfl⟩ : ∃ k, f = k + 1 := ⟨f - 1, by omega⟩
    by_cases h10 : m < 10
    · have e1 : IntKind.i64.wrap ((m : Int) + 1) = ((m + 1 : Nat) : Int) := w64n (by omega)
      have e2 : inc (m : Int) ((m + 1 : Nat) : Int) (([48, 49, 50, 51, 52, 53, 54, 55, 56, 57] : List Nat).length : Nat) = true := by rw [inc_n]; simp; omega
      simp only [ref03_decimal, show ((m : Int) < 10) by omega, decide_true, if_true, e1, e2, chk_true, cut_n, show m + 1 - m = 1 by omega, ten_cut m h10, dec_small h10]
    · have hk : 1 ≤ k := by
        cases k with
        | zero => simp at hm; omega
        | succ k => omega
      have hd : m / 10 < 10 ^ k := by rw [Nat.div_lt_iff_lt_mul (by omega)]; rw [Nat.pow_succ] at hm; exact hm
      have hmod : m % 10 < 10 ^ k := by
        have h1 : m % 10 < 10 := Nat.mod_lt _ (by omega)
        have h2 : 10 ^ 1 ≤ 10 ^ k := Nat.pow_le_pow_right (by omega) hk
        omega
      have e2 : Int.tmod (m : Int) 10 = ((m % 10 : Nat) : Int) := by rw [Int.tmod_eq_emod_of_nonneg (by omega)]; omega
      have e3 : (m : Int).tdiv 10 = ((m / 10 : Nat) : Int) := by rw [Int.tdiv_eq_ediv_of_nonneg (by omega)]; omega
      have e5 : IntKind.i64.wrap ((m / 10 : Nat) : Int) = ((m / 10 : Nat) : Int) := w64 (by omega) (by omega)
      have hl1 := dec_len 20 (m / 10) (by omega) (by omega)
      have hl2 := dec_len 20 (m % 10) (by omega) (by omega)
      have hf : fitS (Lib.decDigits (m / 10)) (Lib.decDigits (m % 10)) = true := by simp [fitS]; omega
      simp only [ref03_decimal, show ¬ ((m : Int) < 10) by omega, decide_false, Bool.false_eq_true, if_false, e3, e5, e2, ih f (m / 10) hk (by omega) hd (by omega), ih f (m % 10) hk (by omega) hmod (by omega), Option.bind_some, hf, chk_true]
      rw [dec_big h10, dec_small (show m % 10 < 10 from Nat.mod_lt _ (by omega))]
/-- a hexadecimal digit -/
def hexd (m : Nat) : UInt8 := if m < 10 then UInt8.ofNat (48 + m) else UInt8.ofNat (87 + m)
def hexL : Nat → Nat → Str
  | 0, _ => []
  | t + 1, m => hexd (m / 16 ^ t % 16) :: hexL t m
def hexS (m : Nat) : Str := hexL 16 m
theorem hexL_len : ∀ t m, (hexL t m).length = t
  | 0, _ => rfl
  | t + 1, m => by simp [hexL, hexL_len t m]
theorem hex_tab : ∀ j : Nat, j < 16 → tab_digest_digits[j]? = some ((hexd j).toNat : Int) := by decide
theorem hex_cut : ∀ j : Nat, j < 16 → (([48, 49, 50, 51, 52, 53, 54, 55, 56, 57, 97, 98, 99, 100, 101, 102] : Str).drop j).take 1 = [hexd j] := by decide
theorem bAnd15 (x : Nat) (hx : x < 18446744073709551616) : bAnd .u64 (x : Int) 15 = ((x % 16 : Nat) : Int) := by
  unfold bAnd
  have e1 : (BitVec.ofInt 64 (x : Int)) = BitVec.ofNat 64 x := by simp
  have e2 : (BitVec.ofInt 64 (15 : Int)) = BitVec.ofNat 64 15 := rfl
  show IntKind.u64.wrap (((BitVec.ofInt 64 (x : Int) &&& BitVec.ofInt 64 15).toNat : Nat) : Int) = _
  rw [e1, e2, BitVec.toNat_and, BitVec.toNat_ofNat, BitVec.toNat_ofNat, Nat.mod_eq_of_lt hx]
  have e3 : x &&& (15 % 2 ^ 64) = x % 16 := Nat.and_two_pow_sub_one_eq_mod x 4
  rw [e3, wu64 (by omega) (by have := Nat.mod_lt x (show 16 > 0 by omega); omega)]
theorem bShr4 (x t : Nat) (ht : t < 16) : bShr .u64 (x : Int) ((4 * t : Nat) : Int) = ((x / 16 ^ t : Nat) : Int) := by
  unfold bShr
  have e1 : min (((4 * t : Nat) : Int).toNat) (IntKind.u64.bits) = 4 * t := by simp [IntKind.bits]; omega
  rw [e1, Int.fdiv_eq_ediv_of_nonneg _ (Int.le_of_lt (Int.pow_pos (by omega)))]
  rw [show (2 : Int) ^ (4 * t) = ((16 ^ t : Nat) : Int) by rw [Int.pow_mul]; simp]
  simp
theorem Hex_loop (m : Nat) (hm : m < 18446744073709551616) : ∀ (k t n : Nat), t + k = 16 → k < n →
    digest_Hex_L1 n (m : Int) (List.replicate (16 - t) 0 ++ (hexL t m).map fun u => (u.toNat : Int)) (t : Int) = some (hexS m) := by
  intro k
  induction k with
  | zero =>
    intro t n ht hn
    obtain ⟨n, rfl⟩ : ∃ k, n = k + 1 := ⟨n - 1, by omega⟩
    have : t = 16 := by omega
    subst this
    have hb : bytesStr ((hexL 16 m).map fun u => (u.toNat : Int)) = hexL 16 m := by
      unfold bytesStr
      rw [List.map_map]
      exact List.map_id'' (fun u => by simp) _
    simp [digest_Hex_L1, hexL_len, chk, hb, hexS]
  | succ k ih =>
    intro t n ht hn
    obtain ⟨n, rfl⟩ : ∃ k, n = k + 1 := ⟨n - 1, by omega⟩
    have hx : m / 16 ^ t < 18446744073709551616 := Nat.lt_of_le_of_lt (Nat.div_le_self _ _) hm
    have e1 : IntKind.i64.wrap (4 * (t : Int)) = ((4 * t : Nat) : Int) := by rw [w64 (by omega) (by omega)]; omega
    have e2 : bAnd .u64 (bShr .u64 (m : Int) ((4 * t : Nat) : Int)) 15 = ((m / 16 ^ t % 16 : Nat) : Int) := by rw [bShr4 m t (by omega), bAnd15 _ hx]
    have h16 : m / 16 ^ t % 16 < 16 := Nat.mod_lt _ (by omega)
    have e3 : IntKind.i64.wrap (15 - (t : Int)) = ((15 - t : Nat) : Int) := by rw [w64 (by omega) (by omega)]; omega
    have hlen : (List.replicate (16 - t) (0 : Int) ++ (hexL t m).map fun u => (u.toNat : Int)).length = 16 := by simp [hexL_len]; omega
    have e4 : setAt (List.replicate (16 - t) (0 : Int) ++ (hexL t m).map fun u => (u.toNat : Int)) ((15 - t : Nat) : Int) ((hexd (m / 16 ^ t % 16)).toNat : Int) =
        List.replicate (16 - (t + 1)) (0 : Int) ++ (hexL (t + 1) m).map fun u => (u.toNat : Int) := by
      unfold setAt
      rw [Int.toNat_natCast, show 16 - t = (15 - t) + 1 by omega, List.replicate_succ', List.append_assoc, List.set_append_right _ _ (by simp)]
      simp [hexL, show 16 - (t + 1) = 15 - t by omega]
    have e5 : inb ((m / 16 ^ t % 16 : Nat) : Int) 16 = true := by rw [inb_iff]; omega
    have e6 : inb ((15 - t : Nat) : Int) 16 = true := by rw [inb_iff]; omega
    have e7 : inb ((15 - t : Nat) : Int) ((List.replicate (16 - t) (0 : Int) ++ (hexL t m).map fun u => (u.toNat : Int)).length : Nat) = true := by rw [hlen, inb_iff]; omega
    simp only [digest_Hex_L1, show ((t : Int) < 16) by omega, decide_true, if_true, e1, show (0 : Int) ≤ ((4 * t : Nat) : Int) by omega, chk_true, e2, e5, idx_n, hex_tab _ h16, Option.bind_some, e3, e6, e7, e4, w64n (show t < 9223372036854775807 by omega)]
    exact ih (t + 1) n (by omega) (by omega)
theorem digest_Hex_eq (m : Nat) (hm : m < 18446744073709551616) : digest_Hex (m : Int) = some (hexS m) := Hex_loop m hm 16 0 fuel rfl (by unfold fuel; omega)
theorem refHex_loop (m : Nat) (hm : m < 18446744073709551616) : ∀ (k t n : Nat), t + k = 16 → k < n → ref03_Hex_L1 n ((m / 16 ^ t : Nat) : Int) (hexL t m) (t : Int) = some (hexS m) := by
  intro k
  induction k with
  | zero =>
    intro t n ht hn
    obtain ⟨n, rfl⟩ : ∃ k, n = k + 1 := ⟨n - 1, by omega⟩
    have : t = 16 := by omega
    subst this
    simp [ref03_Hex_L1, hexS]
  | succ k ih =>
    intro t n ht hn
    obtain ⟨n, rfl⟩ : ∃ k, n = k + 1 := ⟨n - 1, by omega⟩
    have hx : m / 16 ^ t < 18446744073709551616 := Nat.lt_of_le_of_lt (Nat.div_le_self _ _) hm
    have h16 : m / 16 ^ t % 16 < 16 := Nat.mod_lt _ (by omega)
    have e1 : Int.tmod ((m / 16 ^ t : Nat) : Int) 16 = ((m / 16 ^ t % 16 : Nat) : Int) := tmod16 _
    have e2 : IntKind.u64.wrap (((m / 16 ^ t % 16 : Nat) : Int) + 1) = ((m / 16 ^ t % 16 + 1 : Nat) : Int) := by rw [wu64 (by omega) (by omega)]; omega
    have e3 : IntKind.u64.wrap (((m / 16 ^ t : Nat) : Int).tdiv 16) = ((m / 16 ^ (t + 1) : Nat) : Int) := by
      rw [tdiv16, wu64 (Int.natCast_nonneg _) (by have h := Nat.div_le_self (m / 16 ^ t) 16; generalize m / 16 ^ t / 16 = q at *; generalize m / 16 ^ t = p at *; omega), Nat.div_div_eq_div_mul, ← Nat.pow_succ]
    have e4 : inc ((m / 16 ^ t % 16 : Nat) : Int) ((m / 16 ^ t % 16 + 1 : Nat) : Int) (([48, 49, 50, 51, 52, 53, 54, 55, 56, 57, 97, 98, 99, 100, 101, 102] : List Nat).length : Nat) = true := by rw [inc_n]; simp; omega
    have e5 : fitS [hexd (m / 16 ^ t % 16)] (hexL t m) = true := by simp [fitS, hexL_len]; omega
    simp only [ref03_Hex_L1, show ((t : Int) < 16) by omega, decide_true, if_true, e1, e2, e4, chk_true, cut_n, Nat.add_sub_cancel_left, hex_cut _ h16, e5, e3, w64n (show t < 9223372036854775807 by omega)]
    exact ih (t + 1) n (by omega) (by omega)
theorem ref03_Hex_eq (m : Nat) (hm : m < 18446744073709551616) : ref03_Hex (m : Int) = some (hexS m) := by
  have := refHex_loop m hm 16 0 fuel rfl (by unfold fuel; omega)
  simpa [ref03_Hex, hexL] using this
/-- the hexadecimal digest -/
def textS (s : Str) : Str := hexS (sumS s)
theorem textS_len (s : Str) : (textS s).length = 16 := hexL_len _ _
theorem digest_Text_eq (s : Str) (hs : fits s) : digest_Text s = some (textS s) := by
  unfold textS digest_Text
  rw [digest_Sum_eq s hs, Option.bind_some, digest_Hex_eq (sumS s) (sumS_lt s), Option.bind_some]
theorem ref03_Text_eq (s : Str) (hs : fits s) : ref03_Text s = some (textS s) := by
  unfold textS ref03_Text
  rw [(ref03_Sum_eq s hs).1, Option.bind_some, ref03_Hex_eq (sumS s) (sumS_lt s), Option.bind_some]
/-- the authentication code -/
def macS (key s : Str) : Str := textS (Lib.decDigits key.length ++ [58] ++ key ++ textS (Lib.decDigits key.length ++ [58] ++ key ++ s))
/-- short enough that sums of them are in range -/
def mid (s : Str) : Prop := s.length ≤ 1099511627776
theorem mac_fits (key s : Str) (hk : mid key) (hs : mid s) : (Lib.decDigits key.length).length ≤ 20 := by unfold mid at hk; exact dec_len 20 _ (by omega) (by omega)
theorem digest_Mac_eq (key s : Str) (hk : mid key) (hs : mid s) : digest_Mac key s = some (macS key s) := by
  have h1 := mac_fits key s hk hs
  unfold mid at hk hs
  have f1 : fitS (Lib.decDigits key.length) [58] = true := by simp [fitS]; omega
  have f2 : fitS (Lib.decDigits key.length ++ [58]) key = true := by simp [fitS]; omega
  have f3 : fitS (Lib.decDigits key.length ++ [58] ++ key) s = true := by simp [fitS]; omega
  have f4 : fitS (Lib.decDigits key.length ++ [58] ++ key) (textS (Lib.decDigits key.length ++ [58] ++ key ++ s)) = true := by simp [fitS, textS_len]; omega
  unfold digest_Mac
  simp only [lib_Itoa_eq key.length (by omega), Option.bind_some, f1, f2, f3, chk_true, digest_Text_eq (Lib.decDigits key.length ++ [58] ++ key ++ s) (by unfold fits; simp; omega), f4,
    digest_Text_eq (Lib.decDigits key.length ++ [58] ++ key ++ textS (Lib.decDigits key.length ++ [58] ++ key ++ s)) (by unfold fits; simp [textS_len]; omega), macS]
theorem ref03_Mac_eq (key s : Str) (hk : mid key) (hs : mid s) : ref03_Mac key s = some (macS key s) := by
  have h1 := mac_fits key s hk hs
  unfold mid at hk hs
  have f1 : fitS (Lib.decDigits key.length) [58] = true := by simp [fitS]; omega
  have f2 : fitS (Lib.decDigits key.length ++ [58]) key = true := by simp [fitS]; omega
  have f3 : fitS (Lib.decDigits key.length ++ [58] ++ key) s = true := by simp [fitS]; omega
  have f4 : fitS (Lib.decDigits key.length ++ [58] ++ key) (textS (Lib.decDigits key.length ++ [58] ++ key ++ s)) = true := by simp [fitS, textS_len]; omega
  unfold ref03_Mac
  simp only [ref03_decimal_eq 20 fuel key.length (by omega) (by unfold fuel; omega) (by omega) (by omega), Option.bind_some, f1, f2, f3, chk_true, ref03_Text_eq (Lib.decDigits key.length ++ [58] ++ key ++ s) (by unfold fits; simp; omega), f4,
    ref03_Text_eq (Lib.decDigits key.length ++ [58] ++ key ++ textS (Lib.decDigits key.length ++ [58] ++ key ++ s)) (by unfold fits; simp [textS_len]; omega), macS]
/-- an instant by Rule 6 -/
def lim (t : Int) : Int := gmin (gmax t 0) 1099511627776
theorem lim_range (t : Int) : 0 ≤ lim t ∧ lim t ≤ 1099511627776 := by unfold lim gmin gmax; split <;> split <;> omega
theorem lim_val (t : Int) : lim t = if t < 0 then 0 else if t > 1099511627776 then 1099511627776 else t := by unfold lim gmin gmax; repeat' split <;> omega
theorem gmax_ge {a b : Int} : a ≤ gmax a b ∧ b ≤ gmax a b ∧ (gmax a b = a ∨ gmax a b = b) := by unfold gmax; split <;> omega
theorem fuel_big {n : Nat} (h : n < 9223372036854775808) : n < fuel := by unfold fuel; omega
/-! ### the sorted form -/
theorem str_lt_iff {x y : Str} : x < y ↔ ¬ y ≤ x := by
  constructor
  · intro h h'; exact str_not_lt.2 h' h
  · intro h
    rcases Decidable.em (x < y) with h1 | h1
    · exact h1
    · exact absurd (str_not_lt.1 h1) h
theorem str_lt_trans {x y z : Str} (h : x < y) (h' : y < z) : x < z := by
  rw [str_lt_iff] at *
  intro hz
  rcases str_le_total y z with h1 | h1
  · exact h (str_le_trans h1 hz)
  · exact h' h1
theorem str_lt_irrefl (x : Str) : ¬ x < x := fun h => str_lt_iff.1 h (by rcases str_le_total x x with h | h <;> exact h)
theorem str_lt_le {x y : Str} (h : x < y) : x ≤ y := by
  rcases str_le_total x y with h1 | h1
  · exact h1
  · exact absurd h1 (str_lt_iff.1 h)
theorem str_lt_of {x y : Str} (h : x ≤ y) (hn : x ≠ y) : x < y := str_lt_iff.2 fun h' => hn (str_le_antisymm h h')
/-- strictly ascending -/
def asc (l : List Str) : Prop := l.Pairwise (· < ·)
theorem asc_unique : ∀ {a b : List Str}, asc a → asc b → (∀ x, x ∈ a ↔ x ∈ b) → a = b := by
  intro a b ha hb h
  have na : a.Nodup := ha.imp (fun {x y} (h : x < y) (e : x = y) => str_lt_irrefl x (by rw [← e] at h; exact h))
  have nb : b.Nodup := hb.imp (fun {x y} (h : x < y) (e : x = y) => str_lt_irrefl x (by rw [← e] at h; exact h))
  exact sorted_unique ((List.perm_ext_iff_of_nodup na nb).2 h) (ha.imp str_lt_le) (hb.imp str_lt_le)
theorem sortS_asc {l : List Str} (h : l.Nodup) : asc (sortS l) := by
  have h1 := sortS_sorted l
  have h2 : (sortS l).Nodup := (sortS_perm l).nodup_iff.2 h
  exact (h1.and h2).imp fun h => str_lt_of h.1 h.2
/-! ### devices -/
theorem live37 : law37_live = some true := by kernel_rfl
theorem device_limited_eq (t : Int) : device_limited t = some (lim t) := rfl
theorem opt_cases {α : Type} (o : Option α) : o = none ∨ ∃ r, o = some r := by cases o <;> simp
abbrev DL := List (device_key × device_record)
theorem made_eq (l : DL) (g : Int) : device_Devices_made ⟨some l, g⟩ = some true := rfl
def zr : device_record := ⟨[], [], 0⟩
def findR (l : DL) (u i : Str) (now : Int) : device_record × Int :=
  match mfind ⟨u, i⟩ l with
  | none => (zr, 6)
  | some r => if lim now ≥ r.until_ then (zr, 13) else (r, 0)
theorem find_eq (l : DL) (g : Int) (u i : Str) (now : Int) : device_Devices_find ⟨some l, g⟩ u i now = some (findR l u i now) := by
  unfold device_Devices_find findR mgetD mhas
  simp only [made_eq, Option.bind_some, Bool.not_true, Bool.false_eq_true, if_false, Option.getD_some, device_limited_eq]
  rcases opt_cases (mfind (⟨u, i⟩ : device_key) l) with h | ⟨r, h⟩
  · simp only [h]; rfl
  · simp only [h, Option.isSome_some, Bool.not_true, Bool.false_eq_true, if_false, Option.getD_some]
    by_cases hr : lim now ≥ r.until_
    · rw [if_pos (decide_eq_true hr), if_pos hr]; rfl
    · rw [if_neg (by simpa using hr), if_neg hr]
def truD (l : DL) (u i : Str) (now : Int) : Bool :=
  match mfind ⟨u, i⟩ l with
  | none => false
  | some r => decide (lim now < r.until_)
theorem trusted_eq (l : DL) (g : Int) (u i : Str) (now : Int) : device_Devices_Trusted ⟨some l, g⟩ u i now = some (truD l u i now) := by
  unfold device_Devices_Trusted truD mgetD mhas
  simp only [made_eq, Option.bind_some, Bool.not_true, Bool.false_eq_true, if_false, Option.getD_some, device_limited_eq]
  rcases opt_cases (mfind (⟨u, i⟩ : device_key) l) with h | ⟨r, h⟩
  · simp only [h]; rfl
  · simp only [h]; rfl
/-- what a record of devices holds -/
def goodR (p : device_key × device_record) : Prop := word p.1.user = true ∧ word p.1.id = true ∧ clean p.2.secret = true ∧ (p.2.challenge = [] ∨ p.2.challenge.length = 17) ∧ 0 < p.2.until_
structure Inv (l : DL) (g : Int) (N : Nat) : Prop where
  nd : nodupK l
  len : l.length ≤ 256
  good : ∀ p ∈ l, goodR p
  g0 : 0 ≤ g
  g1 : g ≤ N
theorem Inv.mono {l : DL} {g : Int} {N M : Nat} (h : Inv l g N) (hm : N ≤ M) : Inv l g M := ⟨h.nd, h.len, h.good, h.g0, by have := h.g1; omega⟩
theorem inv_new : Inv [] 0 0 := ⟨nodupK_nil, by simp, (fun p h => by cases h), by omega, by omega⟩
theorem word_len {s : Str} (h : word s = true) : 1 ≤ s.length ∧ s.length ≤ 64 := by
  simp only [word, Bool.and_eq_true, decide_eq_true_eq] at h; exact h.2
theorem clean_len {s : Str} (h : clean s = true) : 1 ≤ s.length ∧ s.length ≤ 256 := by
  simp only [clean, Bool.and_eq_true, decide_eq_true_eq] at h; exact h.1.2
theorem find_ok {l : DL} {u i : Str} {now : Int} (h : (findR l u i now).2 = 0) : ∃ r, mfind ⟨u, i⟩ l = some r ∧ findR l u i now = (r, 0) ∧ lim now < r.until_ := by
  unfold findR at h ⊢
  cases hf : mfind (⟨u, i⟩ : device_key) l with
  | none => rw [hf] at h; cases h
  | some r =>
    rw [hf] at h
    simp only at h ⊢
    by_cases hr : lim now ≥ r.until_
    · rw [if_pos hr] at h; cases h
    · rw [if_neg hr] at h ⊢; exact ⟨r, rfl, rfl, by omega⟩
/-- a challenge -/
def uniqS (s : Str) (n : Nat) : Str := [117] ++ textS (Lib.decDigits n ++ [58] ++ s)
theorem uniqS_len (s : Str) (n : Nat) : (uniqS s n).length = 17 := by simp [uniqS, textS_len]
theorem dec20 {n : Nat} (h : n < 1000000) : (Lib.decDigits n).length ≤ 6 := dec_len 6 n (by omega) (by omega)
theorem unique_eq (s : Str) (n : Nat) (hs : s.length ≤ 1000) (hn : n < 1000000) : proof_Unique s (n : Int) = some (uniqS s n) := by
  have h1 := dec20 hn
  unfold proof_Unique uniqS
  rw [codec_Int_eq n (by omega), Option.bind_some, chk_t (by simp [fitS]; omega), chk_t (by simp [fitS]; omega), digest_Text_eq _ (by unfold fits; simp; omega), Option.bind_some, chk_t (by simp [fitS, textS_len])]
def kk (u i : Str) : Str := (u ++ [124]) ++ i
def chalR (l : DL) (g : Int) (u i : Str) (now : Int) : Str × Int × device_Devices :=
  if (findR l u i now).2 = 0 then
    (uniqS (kk u i) (g + 1).toNat, 0, ⟨some (mputL ⟨u, i⟩ ⟨(findR l u i now).1.secret, uniqS (kk u i) (g + 1).toNat, (findR l u i now).1.until_⟩ l), g + 1⟩)
  else ([], (findR l u i now).2, ⟨some l, g⟩)
theorem challenge_eq {l : DL} {g : Int} {N : Nat} (h : Inv l g N) (hN : N < 100000) (u i : Str) (now : Int) : device_Devices_Challenge ⟨some l, g⟩ u i now = some (chalR l g u i now) := by
  unfold device_Devices_Challenge chalR
  rw [find_eq, Option.bind_some]
  by_cases he : (findR l u i now).2 = 0
  · obtain ⟨r, h1, h2, h3⟩ := find_ok he
    obtain ⟨hu, hi, _⟩ := h.good _ (mfind_mem h1)
    have hu := word_len hu
    have hi := word_len hi
    simp only at hu hi
    have g0 := h.g0
    have g1 := h.g1
    have hw : IntKind.i64.wrap (g + 1) = (((g + 1).toNat : Nat) : Int) := by rw [w64 (by omega) (by omega)]; omega
    have hg : (((g + 1).toNat : Nat) : Int) = g + 1 := by omega
    rw [if_neg (by simp [he]), if_pos he, chk_t (by simp [fitS]; omega), chk_t (by simp [fitS]; omega), hw, unique_eq _ _ (by simp; omega) (by omega), Option.bind_some, hg]
    simp only [Option.isSome_some, chk_true]
    rfl
  · rw [if_pos (by simpa using he), if_neg he]
theorem inv_put {l : DL} {g : Int} {N : Nat} (h : Inv l g N) {k : device_key} {x : device_record} (hk : (mfind k l).isSome = true ∨ l.length < 256) (hg : goodR (k, x)) : Inv (mputL k x l) g N := by
  refine ⟨nodupK_put h.nd, ?_, fun p hp => ?_, h.g0, h.g1⟩
  · rw [len_put]
    have := h.len
    rcases hk with hk | hk
    · rw [if_pos hk]; exact this
    · split <;> omega
  · rcases mem_put hp with rfl | hp
    · exact hg
    · exact h.good p hp
theorem chal_inv {l : DL} {g : Int} {N : Nat} (h : Inv l g N) (u i : Str) (now : Int) : ∃ l' g', (chalR l g u i now).2.2 = ⟨some l', g'⟩ ∧ Inv l' g' (N + 1) := by
  unfold chalR
  by_cases he : (findR l u i now).2 = 0
  · obtain ⟨r, h1, h2, h3⟩ := find_ok he
    obtain ⟨a1, a2, a3, a4, a5⟩ := h.good _ (mfind_mem h1)
    rw [if_pos he]
    refine ⟨_, _, rfl, ?_⟩
    have := inv_put h (k := ⟨u, i⟩) (x := ⟨(findR l u i now).1.secret, uniqS (kk u i) (g + 1).toNat, (findR l u i now).1.until_⟩) (.inl (by rw [h1]; rfl)) ⟨a1, a2, by rw [h2]; exact a3, .inr (uniqS_len _ _), by rw [h2]; exact a5⟩
    exact ⟨this.nd, this.len, this.good, by have := h.g0; omega, by have := h.g1; omega⟩
  · rw [if_neg he]; exact ⟨l, g, rfl, h.mono (by omega)⟩
/-- an answer -/
theorem answer_eq (a b : Str) (ha : mid a) (hb : mid b) : device_Answer a b = some (macS a b) := by
  unfold device_Answer; rw [digest_Mac_eq a b ha hb]; rfl
def provR (l : DL) (g : Int) (u i a : Str) (now : Int) : Int × device_Devices :=
  if (findR l u i now).2 = 0 then
    if (findR l u i now).1.challenge = [] then (12, ⟨some l, g⟩)
    else (if a == macS (findR l u i now).1.secret (findR l u i now).1.challenge then 0 else 11, ⟨some (mputL ⟨u, i⟩ ⟨(findR l u i now).1.secret, [], (findR l u i now).1.until_⟩ l), g⟩)
  else ((findR l u i now).2, ⟨some l, g⟩)
theorem prove_eq {l : DL} {g : Int} {N : Nat} (h : Inv l g N) (u i a : Str) (now : Int) : device_Devices_Prove ⟨some l, g⟩ u i a now = some (provR l g u i a now) := by
  unfold device_Devices_Prove provR
  rw [find_eq, Option.bind_some]
  by_cases he : (findR l u i now).2 = 0
  · obtain ⟨r, h1, h2, h3⟩ := find_ok he
    obtain ⟨a1, a2, a3, a4, a5⟩ := h.good _ (mfind_mem h1)
    have a3 := clean_len a3
    simp only at a3 a4
    rw [if_neg (by simp [he]), if_pos he, h2]
    simp only
    by_cases hc : r.challenge = []
    · rw [if_pos (by simp [hc]), if_pos hc]
    · rw [if_neg (by simpa using hc), if_neg hc, answer_eq _ _ (by unfold mid; omega) (by unfold mid; rcases a4 with a4 | a4 <;> simp [a4]), Option.bind_some]
      simp only [Option.isSome_some, chk_true]
      cases hx : a == macS r.secret r.challenge <;> rfl
  · rw [if_pos (by simpa using he), if_neg he]
theorem prov_inv {l : DL} {g : Int} {N : Nat} (h : Inv l g N) (u i a : Str) (now : Int) : ∃ l' g', (provR l g u i a now).2 = ⟨some l', g'⟩ ∧ Inv l' g' N := by
  unfold provR
  by_cases he : (findR l u i now).2 = 0
  · obtain ⟨r, h1, h2, h3⟩ := find_ok he
    obtain ⟨a1, a2, a3, a4, a5⟩ := h.good _ (mfind_mem h1)
    rw [if_pos he]
    by_cases hc : (findR l u i now).1.challenge = []
    · rw [if_pos hc]; exact ⟨l, g, rfl, h⟩
    · rw [if_neg hc]
      exact ⟨_, _, rfl, inv_put h (.inl (by rw [h1]; rfl)) ⟨a1, a2, by rw [h2]; exact a3, .inl rfl, by rw [h2]; exact a5⟩⟩
  · rw [if_neg he]; exact ⟨l, g, rfl, h⟩
theorem mlen_some {K V : Type} (l : List (K × V)) : mlen (some l) = (l.length : Int) := by unfold mlen; simp
/-- Trust's record -/
def trR (l : DL) (u i s : Str) (un : Int) : device_record :=
  ⟨s, if ((mfind ⟨u, i⟩ l).getD zr).secret = s then ((mfind ⟨u, i⟩ l).getD zr).challenge else [], gmax ((mfind ⟨u, i⟩ l).getD zr).until_ (lim un)⟩
def trE (l : DL) (u i s : Str) (un now : Int) : Int :=
  if (!word u || !word i) then 5 else if !clean s then 4 else if lim un ≤ lim now then 13 else if (mfind (⟨u, i⟩ : device_key) l).isSome = false ∧ 256 ≤ l.length then 3 else 0
def trL (l : DL) (u i s : Str) (un : Int) : DL := if trR l u i s un = (mfind ⟨u, i⟩ l).getD zr then l else mputL ⟨u, i⟩ (trR l u i s un) l
def trustR (l : DL) (g : Int) (u i s : Str) (un now : Int) : Int × device_Devices :=
  if trE l u i s un now = 0 then (0, ⟨some (trL l u i s un), g⟩) else (trE l u i s un now, ⟨some l, g⟩)
theorem trust_B1 (l : DL) (g : Int) (u i : Str) (r n : device_record) : device_Devices_Trust_B1 ⟨some l, g⟩ u i r.secret r.challenge r.until_ n.secret n.challenge n.until_ = some (0, ⟨some (if n = r then l else mputL ⟨u, i⟩ n l), g⟩) := by
  have e : device_record.eqb (device_record.mk n.secret n.challenge n.until_) (device_record.mk r.secret r.challenge r.until_) = decide (n = r) := by
    cases n; cases r; rw [Bool.eq_iff_iff]; simp [device_record.eqb, and_assoc]
  unfold device_Devices_Trust_B1 device_Devices_Trust_B2
  rw [e]
  by_cases h : n = r
  · simp [h]
  · simp only [h, decide_false, Bool.not_false, if_true, if_false, Option.isSome_some, chk_true]; rfl
theorem trust_eq (l : DL) (g : Int) (u i s : Str) (un now : Int) (hu : fits u) (hi : fits i) (hs : fits s) : device_Devices_Trust ⟨some l, g⟩ u i s un now = some (trustR l g u i s un now) := by
  unfold device_Devices_Trust trustR trE
  simp only [device_limited_eq, Option.bind_some, made_eq, Bool.not_true, Bool.false_eq_true, if_false, fold_Word_eq u hu, fold_Word_eq i hi, fold_Clean_eq s hs]
  cases hw : word u with
  | false => rfl
  | true =>
    cases hv : word i with
    | false => rfl
    | true =>
      cases hc : clean s with
      | false => rfl
      | true =>
        simp only [Bool.not_true, Bool.false_eq_true, if_false, Option.bind_some, Bool.or_false, decide_eq_true_eq, mgetD, mhas, mlen_some, Option.getD_some]
        by_cases ht : lim un ≤ lim now
        · simp [ht]
        · simp only [ht, if_false]
          by_cases hq : (mfind (⟨u, i⟩ : device_key) l).isSome = false ∧ 256 ≤ l.length
          · have h2 : (!(mfind (⟨u, i⟩ : device_key) l).isSome && decide ((l.length : Int) ≥ 256)) = true := by
              rw [Bool.and_eq_true]; exact ⟨by simp [hq.1], decide_eq_true (by have := hq.2; omega)⟩
            rw [if_pos h2, if_pos hq]; rfl
          · have h2 : ¬ (!(mfind (⟨u, i⟩ : device_key) l).isSome && decide ((l.length : Int) ≥ 256)) = true := by
              rw [Bool.and_eq_true]; rintro ⟨a, b⟩; exact hq ⟨by simpa using a, by have := of_decide_eq_true b; omega⟩
            rw [if_neg h2, if_neg hq]
            simp only [if_true]
            show (if (((mfind (⟨u, i⟩ : device_key) l).getD zr).secret == s) = true then _ else _) = _
            unfold trL trR
            by_cases hx : ((mfind (⟨u, i⟩ : device_key) l).getD zr).secret = s
            · rw [if_pos (by simpa using hx)]
              simp only [hx, if_true]
              have := trust_B1 l g u i ((mfind (⟨u, i⟩ : device_key) l).getD zr) ⟨s, ((mfind (⟨u, i⟩ : device_key) l).getD zr).challenge, gmax ((mfind (⟨u, i⟩ : device_key) l).getD zr).until_ (lim un)⟩
              exact this
            · rw [if_neg (by simpa using hx)]
              simp only [hx, if_false]
              exact trust_B1 l g u i ((mfind (⟨u, i⟩ : device_key) l).getD zr) ⟨s, [], gmax ((mfind (⟨u, i⟩ : device_key) l).getD zr).until_ (lim un)⟩
theorem trE_ok {l : DL} {u i s : Str} {un now : Int} (h : trE l u i s un now = 0) : word u = true ∧ word i = true ∧ clean s = true ∧ lim now < lim un ∧ ((mfind (⟨u, i⟩ : device_key) l).isSome = true ∨ l.length < 256) := by
  unfold trE at h
  split at h
  · cases h
  · rename_i h1
    split at h
    · cases h
    · rename_i h2
      split at h
      · cases h
      · rename_i h3
        split at h
        · cases h
        · rename_i h4
          simp only [Bool.or_eq_true, Bool.not_eq_true', not_or, Bool.not_eq_false] at h1 h2
          refine ⟨h1.1, h1.2, h2, by omega, ?_⟩
          by_cases hq : (mfind (⟨u, i⟩ : device_key) l).isSome = true
          · exact .inl hq
          · exact .inr (Nat.lt_of_not_le fun h => h4 ⟨by simpa using hq, h⟩)
theorem trust_inv {l : DL} {g : Int} {N : Nat} (h : Inv l g N) (u i s : Str) (un now : Int) : ∃ l', (trustR l g u i s un now).2 = ⟨some l', g⟩ ∧ Inv l' g N ∧ (l' = l ∨ ∃ x, l' = mputL ⟨u, i⟩ x l) := by
  unfold trustR
  by_cases he : trE l u i s un now = 0
  · rw [if_pos he]
    obtain ⟨h1, h2, h3, h4, h5⟩ := trE_ok he
    have hu := lim_range un
    have hn := lim_range now
    refine ⟨_, rfl, ?_⟩
    unfold trL
    by_cases e : trR l u i s un = (mfind ⟨u, i⟩ l).getD zr
    · rw [if_pos e]; exact ⟨h, .inl rfl⟩
    · rw [if_neg e]
      refine ⟨inv_put h h5 ⟨h1, h2, h3, ?_, ?_⟩, .inr ⟨_, rfl⟩⟩
      · simp only [trR]
        split
        · rcases opt_cases (mfind (⟨u, i⟩ : device_key) l) with hm | ⟨r, hr⟩
          · rw [hm]; exact .inl rfl
          · rw [hr]; exact (h.good _ (mfind_mem hr)).2.2.2.1
        · exact .inl rfl
      · have := (gmax_ge (a := ((mfind (⟨u, i⟩ : device_key) l).getD zr).until_) (b := lim un)).2.1
        simp only [trR]; omega
  · rw [if_neg he]; exact ⟨l, rfl, h, .inl rfl⟩
/-! ### List, Drop, Revoke -/
theorem sortS_congr {a b : List Str} (h : a.Perm b) : sortS a = sortS b := sorted_unique ((sortS_perm a).trans (h.trans (sortS_perm b).symm)) (sortS_sorted a) (sortS_sorted b)
theorem lib_Sort_eq {a : List Str} (h : a.length < 4611686018427387904) : lib_Sort a = some (sortS a) := by unfold lib_Sort; rw [chk_t (decide_eq_true h)]
def mineL (u : Str) (now : Int) (l : DL) : List Str := (l.filter fun p => (p.1.user == u) && decide (lim now < p.2.until_)).map (·.1.id)
theorem mineL_perm {u : Str} {now : Int} {a b : DL} (h : a.Perm b) : (mineL u now a).Perm (mineL u now b) := (h.filter _).map _
theorem mineL_len (u : Str) (now : Int) (l : DL) : (mineL u now l).length ≤ l.length := by unfold mineL; rw [List.length_map]; exact List.length_filter_le _ _
theorem mineL_cons (u : Str) (now : Int) (e : device_key × device_record) (l : DL) : mineL u now (e :: l) = if (e.1.user == u) && decide (lim now < e.2.until_) then e.1.id :: mineL u now l else mineL u now l := by
  unfold mineL; rw [List.filter_cons]; split <;> rfl
theorem list_loop (l : DL) (g : Int) (u : Str) (now : Int) (hn : nodupK l) (hl : l.length ≤ 256) : ∀ (k : Nat) (done : List device_key) (out : List Str) (n : Nat), (leftL l done).length = k → k < n → out.length + k ≤ 256 →
    device_Devices_List_L1 n ⟨some l, g⟩ u now out done = some (sortS (out ++ mineL u now (leftL l done))) := by
  intro k
  induction k with
  | zero =>
    intro done out n hk hn' ho
    obtain ⟨n, rfl⟩ : ∃ k, n = k + 1 := ⟨n - 1, by omega⟩
    have e := List.eq_nil_of_length_eq_zero hk
    unfold device_Devices_List_L1
    rw [mleft_some, e, pickAny, lib_Sort_eq (by omega)]
    simp [mineL]
  | succ k ih =>
    intro done out n hk hn' ho
    obtain ⟨n, rfl⟩ : ∃ k, n = k + 1 := ⟨n - 1, by omega⟩
    unfold device_Devices_List_L1
    rw [mleft_some]
    refine pickAny_of (fun e => by rw [e] at hk; cases hk) fun e he => ?_
    have hp := leftL_perm hn he
    have hlen := leftL_len hn he
    obtain ⟨hmem, _⟩ := leftL_mem he
    have hfind := mfind_of_mem hn hmem
    have hp2 : (out ++ mineL u now (leftL l done)).Perm (out ++ mineL u now (e :: leftL l (e.1 :: done))) := (mineL_perm hp).append_left out
    rw [sortS_congr hp2, mineL_cons]
    by_cases hu : e.1.user = u
    · have hk2 : (⟨u, e.1.id⟩ : device_key) = e.1 := by rw [← hu]
      rw [if_pos (by simpa using hu), trusted_eq]
      simp only [Option.bind_some, truD, hk2, hfind]
      by_cases ht : lim now < e.2.until_
      · rw [if_pos (by simpa using ht), if_pos (by simp [hu, ht]), chk_t (by simp [fitL]; omega)]
        unfold device_Devices_List_B2
        rw [ih (e.1 :: done) _ n (by omega) (by omega) (by simp; omega)]
        rw [List.append_assoc]; rfl
      · rw [if_neg (by simpa using ht), if_neg (by simp [ht])]
        unfold device_Devices_List_B2
        exact ih (e.1 :: done) _ n (by omega) (by omega) (by omega)
    · rw [if_neg (by simpa using hu), if_neg (by simp [hu])]
      simp only [Option.bind_some, Bool.false_eq_true, if_false]
      unfold device_Devices_List_B2
      exact ih (e.1 :: done) _ n (by omega) (by omega) (by omega)
theorem list_eq {l : DL} {g : Int} {N : Nat} (h : Inv l g N) (u : Str) (now : Int) : device_Devices_List ⟨some l, g⟩ u now = some (sortS (mineL u now l)) := by
  unfold device_Devices_List
  simp only [made_eq, Option.bind_some, Bool.not_true, Bool.false_eq_true, if_false]
  have hl := h.len
  have := list_loop l g u now h.nd hl l.length [] [] fuel (by rw [leftL_nil]) (fuel_big (by omega)) (by simp; omega)
  rw [this, leftL_nil]; rfl
def others (u : Str) (l : DL) : DL := l.filter fun p => !(p.1.user == u)
def own (u : Str) (l : DL) : DL := l.filter fun p => p.1.user == u
theorem own_others (u : Str) (l : DL) : (own u l).length + (others u l).length = l.length := by
  induction l with
  | nil => rfl
  | cons p l ih =>
    simp only [own, others, List.filter_cons] at ih ⊢
    cases hp : p.1.user == u <;> simp <;> omega
/-- the deletions of an iteration -/
theorem drop_loop (g : Int) (u : Str) (N0 : Int) (l0 : DL) (hn0 : nodupK l0) : ∀ (k : Nat) (done : List device_key) (n : Nat), (leftL l0 done).length = k → k < n → (∀ x ∈ done, True) →
    device_Devices_Drop_L1 n ⟨some (l0.filter fun p => !(decide (p.1 ∈ done) && (p.1.user == u))), g⟩ u N0 done =
      some (IntKind.i64.wrap (N0 - ((others u l0).length : Int)), ⟨some (others u l0), g⟩) := by
  intro k
  induction k with
  | zero =>
    intro done n hk hn' _
    obtain ⟨n, rfl⟩ : ∃ k, n = k + 1 := ⟨n - 1, by omega⟩
    have e := List.eq_nil_of_length_eq_zero hk
    have hall : ∀ p ∈ l0, p.1 ∈ done := fun p hp => by
      refine Classical.byContradiction fun hc => ?_
      have : p ∈ leftL l0 done := List.mem_filter.2 ⟨hp, by simpa using hc⟩
      rw [e] at this; cases this
    have e2 : (l0.filter fun p => !(decide (p.1 ∈ done) && (p.1.user == u))) = others u l0 := List.filter_congr fun p hp => by simp [hall p hp]
    have e3 : leftL (others u l0) done = [] := List.filter_eq_nil_iff.2 fun p hp => by simp [hall p (List.mem_filter.1 hp).1]
    unfold device_Devices_Drop_L1
    rw [e2]
    simp only [mleft_some, e3, pickAny, mlen, Option.getD_some]
  | succ k ih =>
    intro done n hk hn' _
    obtain ⟨n, rfl⟩ : ∃ k, n = k + 1 := ⟨n - 1, by omega⟩
    have hsame : leftL (l0.filter fun p => !(decide (p.1 ∈ done) && (p.1.user == u))) done = leftL l0 done := by
      unfold leftL
      rw [List.filter_filter]
      refine List.filter_congr fun p _ => ?_
      by_cases hd : p.1 ∈ done <;> simp [hd]
    unfold device_Devices_Drop_L1
    simp only [mleft_some, hsame]
    refine pickAny_of (fun e => by rw [e] at hk; cases hk) fun e he => ?_
    have hlen := leftL_len hn0 he
    obtain ⟨hmem, hnd⟩ := leftL_mem he
    unfold device_Devices_Drop_B2
    by_cases hu : e.1.user = u
    · rw [if_pos (by simpa using hu)]
      have e2 : mdel (some (l0.filter fun p => !(decide (p.1 ∈ done) && (p.1.user == u)))) e.1 = some (l0.filter fun p => !(decide (p.1 ∈ e.1 :: done) && (p.1.user == u))) := by
        show some (mdelL _ _) = _
        rw [del_filter (nodupK_filter hn0), List.filter_filter]
        congr 1
        refine List.filter_congr fun p _ => ?_
        by_cases hp : p.1 = e.1
        · simp [hp, hu]
        · simp [hp]
      simp only [e2]
      exact ih (e.1 :: done) n (by omega) (by omega) (fun _ _ => trivial)
    · rw [if_neg (by simpa using hu)]
      have e2 : (l0.filter fun p => !(decide (p.1 ∈ done) && (p.1.user == u))) = l0.filter fun p => !(decide (p.1 ∈ e.1 :: done) && (p.1.user == u)) := by
        refine List.filter_congr fun p _ => ?_
        by_cases hp : p.1 = e.1
        · simp [hp, hu]
        · simp [hp]
      rw [e2]
      exact ih (e.1 :: done) n (by omega) (by omega) (fun _ _ => trivial)
theorem drop_eq {l : DL} {g : Int} {N : Nat} (h : Inv l g N) (u : Str) : device_Devices_Drop ⟨some l, g⟩ u = some (((own u l).length : Int), ⟨some (others u l), g⟩) := by
  unfold device_Devices_Drop
  simp only [made_eq, Option.bind_some, Bool.not_true, Bool.false_eq_true, if_false]
  have hl := h.len
  have h1 := drop_loop g u (mlen (some l)) l h.nd l.length [] fuel (by rw [leftL_nil]) (fuel_big (by omega)) (fun _ _ => trivial)
  have e : (l.filter fun p => !(decide (p.1 ∈ ([] : List device_key)) && (p.1.user == u))) = l := List.filter_eq_self.2 fun _ _ => by simp
  rw [e] at h1
  rw [h1]
  have := own_others u l
  simp only [mlen, Option.getD_some]
  rw [w64 (by omega) (by omega)]
  congr 2
  omega
theorem revoke_eq (l : DL) (g : Int) (u i : Str) : device_Devices_Revoke ⟨some l, g⟩ u i = some ((mfind (⟨u, i⟩ : device_key) l).isSome, ⟨some (mdelL ⟨u, i⟩ l), g⟩) := rfl
theorem inv_others {l : DL} {g : Int} {N : Nat} (h : Inv l g N) (u : Str) : Inv (others u l) g N :=
  ⟨nodupK_filter h.nd, Nat.le_trans (List.length_filter_le _ _) h.len, fun p hp => h.good p (List.mem_filter.1 hp).1, h.g0, h.g1⟩
theorem inv_del {l : DL} {g : Int} {N : Nat} (h : Inv l g N) (k : device_key) : Inv (mdelL k l) g N :=
  ⟨nodupK_del h.nd, by have := len_del (k := k) h.nd; have := h.len; omega, fun p hp => h.good p (mem_del hp), h.g0, h.g1⟩
/-! ### the gates -/
def tooLong (l : List Str) (m : Int) : Bool := l.any fun s => decide ((s.length : Int) > m)
theorem great_loop (l : List Str) (m : Int) (hl : fits l) : ∀ (r : List Str) (i n : Nat), l.drop i = r → i ≤ l.length → r.length < n → ref02_Great_L1 n l m (i : Int) = some (tooLong r m) := by
  unfold fits at hl
  intro r
  induction r with
  | nil =>
    intro i n hd hi hn
    obtain ⟨n, rfl⟩ : ∃ k, n = k + 1 := ⟨n - 1, by simp at hn; omega⟩
    have := drop_nil hd
    simp only [ref02_Great_L1, show ¬ ((i : Int) < l.length) by omega, decide_false, Bool.false_eq_true, if_false]
    rfl
  | cons x r ih =>
    intro i n hd hi hn
    obtain ⟨n, rfl⟩ : ∃ k, n = k + 1 := ⟨n - 1, by simp at hn; omega⟩
    obtain ⟨h1, h2, h3⟩ := drop_more hd
    have hlt := drop_lt hd
    simp only [ref02_Great_L1, show ((i : Int) < l.length) by omega, decide_true, if_true, idx_n, h2, Option.bind_some, w64n (show i < 9223372036854775807 by omega), ih (i + 1) n h3 (by omega) (by simp at hn; omega)]
    unfold tooLong
    rw [List.any_cons]
    by_cases hx : (x.length : Int) > m
    · simp [hx]
    · simp [hx]
theorem great_eq (l : List Str) (k m : Int) (hl : fits l) (hk : (l.length : Int) ≤ k) : ref02_Great l k m = some (tooLong l m) := by
  unfold ref02_Great
  rw [if_neg (by simpa using hk)]
  exact great_loop l m hl l 0 fuel rfl (by omega) (fuel_pos hl)
theorem tooLong_false {l : List Str} {m : Nat} (h : tooLong l (m : Int) = false) : ∀ s ∈ l, s.length ≤ m := by
  intro s hs
  unfold tooLong at h
  rw [List.any_eq_false] at h
  have := h s hs
  simp at this
  omega
def shortOp (o : law37_Op) : Prop := o.User.length ≤ 300 ∧ o.ID.length ≤ 300 ∧ o.Secret.length ≤ 300
theorem long_loop (l : List law37_Op) (hl : fits l) : ∀ (r : List law37_Op) (i n : Nat), l.drop i = r → i ≤ l.length → r.length < n →
    law37_long_L1 n l (l.length : Int) (i : Int) = some true ∨ (law37_long_L1 n l (l.length : Int) (i : Int) = some false ∧ ∀ o ∈ r, shortOp o) := by
  unfold fits at hl
  intro r
  induction r with
  | nil =>
    intro i n hd hi hn
    obtain ⟨n, rfl⟩ : ∃ k, n = k + 1 := ⟨n - 1, by simp at hn; omega⟩
    have := drop_nil hd
    refine .inr ⟨?_, fun o ho => by cases ho⟩
    simp only [law37_long_L1, show ¬ ((i : Int) < l.length) by omega, decide_false, Bool.false_eq_true, if_false]
  | cons x r ih =>
    intro i n hd hi hn
    obtain ⟨n, rfl⟩ : ∃ k, n = k + 1 := ⟨n - 1, by simp at hn; omega⟩
    obtain ⟨h1, h2, h3⟩ := drop_more hd
    have hlt := drop_lt hd
    simp only [law37_long_L1, show ((i : Int) < l.length) by omega, decide_true, if_true, idx_n, h2, Option.bind_some, w64n (show i < 9223372036854775807 by omega), great_eq [x.User, x.ID, x.Secret] 3 300 (by simp [fits]) (by simp)]
    cases ht : tooLong [x.User, x.ID, x.Secret] 300 with
    | true => exact .inl rfl
    | false =>
      have hs := tooLong_false (m := 300) ht
      rcases ih (i + 1) n h3 (by omega) (by simp at hn; omega) with h | ⟨h, ho⟩
      · exact .inl h
      · refine .inr ⟨h, fun o ho' => ?_⟩
        rcases List.mem_cons.1 ho' with rfl | ho'
        · exact ⟨hs _ (by simp), hs _ (by simp), hs _ (by simp)⟩
        · exact ho o ho'
theorem long_gate (l : List law37_Op) (m : Nat) (hl : fits l) : law37_long l (m : Int) = some true ∨ (law37_long l (m : Int) = some false ∧ l.length ≤ m ∧ ∀ o ∈ l, shortOp o) := by
  unfold law37_long
  by_cases h : (l.length : Int) > m
  · rw [if_pos (by simpa using h)]; exact .inl rfl
  · rw [if_neg (by simpa using h)]
    rcases long_loop l hl l 0 fuel rfl (by omega) (fuel_pos hl) with h1 | ⟨h1, h2⟩
    · exact .inl h1
    · exact .inr ⟨h1, by omega, h2⟩
/-! ### operations -/
theorem short_fits {s : Str} (h : s.length ≤ 300) : fits s := by unfold fits; omega
theorem short_mid {s : Str} (h : s.length ≤ 300) : mid s := by unfold mid; omega
/-- what an operation does to another user's devices -/
theorem own_put {u : Str} {k : device_key} {x : device_record} (hk : k.user ≠ u) : ∀ (l : DL), own u (mputL k x l) = own u l
  | [] => by unfold own mputL; rw [List.filter_cons, if_neg (by simpa using hk)]
  | p :: l => by
    have ih := own_put (k := k) (x := x) hk l
    unfold own at ih ⊢
    unfold mputL
    by_cases e : k = p.1
    · rw [if_pos e, List.filter_cons, List.filter_cons, if_neg (by simpa using hk), if_neg (by rw [← e]; simpa using hk)]
    · rw [if_neg e, List.filter_cons, List.filter_cons, ih]
theorem own_del {u : Str} {k : device_key} (hk : k.user ≠ u) : ∀ (l : DL), own u (mdelL k l) = own u l
  | [] => rfl
  | p :: l => by
    have ih := own_del (k := k) hk l
    unfold own at ih ⊢
    unfold mdelL
    by_cases e : k = p.1
    · rw [if_pos e, List.filter_cons, if_neg (by rw [← e]; simpa using hk)]
    · rw [if_neg e, List.filter_cons, List.filter_cons, ih]
theorem own_drop {u v : Str} (hk : v ≠ u) (l : DL) : own u (others v l) = own u l := by
  unfold own others
  rw [List.filter_filter]
  refine List.filter_congr fun p _ => ?_
  by_cases h : p.1.user = u
  · simp [h]; exact fun e => hk e.symm
  · simp [h]
theorem chal_own (l : DL) (g : Int) (u v i : Str) (now : Int) (hv : v ≠ u) : ∃ l' g', (chalR l g v i now).2.2 = ⟨some l', g'⟩ ∧ own u l' = own u l := by
  unfold chalR
  split
  · exact ⟨_, _, rfl, own_put (k := ⟨v, i⟩) hv l⟩
  · exact ⟨_, _, rfl, rfl⟩
theorem prov_own (l : DL) (g : Int) (u v i a : Str) (now : Int) (hv : v ≠ u) : ∃ l' g', (provR l g v i a now).2 = ⟨some l', g'⟩ ∧ own u l' = own u l := by
  unfold provR
  split
  · split
    · exact ⟨_, _, rfl, rfl⟩
    · exact ⟨_, _, rfl, own_put (k := ⟨v, i⟩) hv l⟩
  · exact ⟨_, _, rfl, rfl⟩
theorem chal_text (l : DL) (g : Int) (u i : Str) (now : Int) : (chalR l g u i now).1.length ≤ 17 := by
  unfold chalR; split
  · simp [uniqS_len]
  · simp
/-- every operation is defined, keeps the invariant, and leaves other users alone -/
theorem do_ok {l : DL} {g : Int} {N : Nat} (h : Inv l g N) (hN : N < 100000) (o : law37_Op) (last : Str) (ho : shortOp o) (hl : last.length ≤ 300) :
    ∃ r l' g', law37_do ⟨some l, g⟩ o last = some (r, ⟨some l', g'⟩) ∧ Inv l' g' (N + 1) ∧ r.text.length ≤ 300 ∧ ∀ u, o.User ≠ u → own u l' = own u l := by
  obtain ⟨h1, h2, h3⟩ := ho
  unfold law37_do law37_do_B1
  by_cases k1 : o.Kind = 1
  · rw [if_pos (by simpa using k1), trust_eq _ _ _ _ _ _ _ (short_fits h1) (short_fits h2) (short_fits h3), Option.bind_some]
    obtain ⟨l', e1, e2, e3⟩ := trust_inv h o.User o.ID o.Secret o.Until o.Now
    rw [e1]
    refine ⟨_, l', g, rfl, e2.mono (by omega), by simp, fun u hu => ?_⟩
    rcases e3 with rfl | ⟨x, rfl⟩
    · rfl
    · exact own_put (k := ⟨o.User, o.ID⟩) hu l
  rw [if_neg (by simpa using k1)]
  by_cases k2 : o.Kind = 2
  · rw [if_pos (by simpa using k2), challenge_eq h hN, Option.bind_some]
    obtain ⟨l', g', e1, e2⟩ := chal_inv h o.User o.ID o.Now
    refine ⟨_, l', g', by rw [e1], e2, ?_, fun u hu => ?_⟩
    · have := chal_text l g o.User o.ID o.Now; simp only; omega
    · obtain ⟨l2, g2, e3, e4⟩ := chal_own l g u o.User o.ID o.Now hu
      rw [e1] at e3
      simp only [device_Devices.mk.injEq, Option.some.injEq] at e3
      rw [e3.1]; exact e4
  rw [if_neg (by simpa using k2)]
  have prov : ∀ a : Str, ∃ r l' g', ((device_Devices_Prove ⟨some l, g⟩ o.User o.ID a o.Now).bind fun y55 =>
      some ((law37_result.mk [] [] 0 false y55.1), y55.2)) = some (r, ⟨some l', g'⟩) ∧ Inv l' g' (N + 1) ∧ r.text.length ≤ 300 ∧ ∀ u, o.User ≠ u → own u l' = own u l := by
    intro a
    rw [prove_eq h, Option.bind_some]
    obtain ⟨l', g', e1, e2⟩ := prov_inv h o.User o.ID a o.Now
    refine ⟨_, l', g', by rw [e1], e2.mono (by omega), by simp, fun u hu => ?_⟩
    obtain ⟨l2, g2, e3, e4⟩ := prov_own l g u o.User o.ID a o.Now hu
    rw [e1] at e3
    simp only [device_Devices.mk.injEq, Option.some.injEq] at e3
    rw [e3.1]; exact e4
  by_cases k3 : o.Kind = 3
  · rw [if_pos (by simpa using k3)]; exact prov _
  rw [if_neg (by simpa using k3)]
  by_cases k4 : o.Kind = 4
  · rw [if_pos (by simpa using k4), answer_eq _ _ (short_mid h3) (short_mid hl), Option.bind_some]; exact prov _
  rw [if_neg (by simpa using k4)]
  by_cases k5 : o.Kind = 5
  · rw [if_pos (by simpa using k5), revoke_eq, Option.bind_some]
    exact ⟨_, _, _, rfl, (inv_del h _).mono (by omega), by simp, fun u hu => own_del (k := ⟨o.User, o.ID⟩) hu l⟩
  rw [if_neg (by simpa using k5)]
  by_cases k6 : o.Kind = 6
  · rw [if_pos (by simpa using k6), list_eq h, Option.bind_some]
    exact ⟨_, _, _, rfl, h.mono (by omega), by simp, fun _ _ => rfl⟩
  rw [if_neg (by simpa using k6)]
  by_cases k7 : o.Kind = 7
  · rw [if_pos (by simpa using k7), drop_eq h, Option.bind_some]
    exact ⟨_, _, _, rfl, (inv_others h _).mono (by omega), by simp, fun u hu => own_drop hu l⟩
  rw [if_neg (by simpa using k7)]
  by_cases k8 : o.Kind = 8
  · rw [if_pos (by simpa using k8), trusted_eq, Option.bind_some]
    exact ⟨_, _, _, rfl, h.mono (by omega), by simp, fun _ _ => rfl⟩
  rw [if_neg (by simpa using k8)]
  exact ⟨_, _, _, rfl, h.mono (by omega), by simp, fun _ _ => rfl⟩
/-! ### the specification of devices -/
abbrev toDev (p : device_key × device_record) : ref37_Device := ⟨p.1.user, p.1.id, p.2.secret, p.2.challenge, p.2.until_⟩
abbrev rf (l : DL) (g : Int) : ref37_Devices := ⟨l.map toDev, g⟩
theorem ref15_Instant_eq (t : Int) : ref15_Instant t = some (lim t) := by
  unfold ref15_Instant
  rw [lim_val]
  by_cases h : t < 0
  · rw [if_pos (decide_eq_true h), if_pos h]
  · rw [if_neg (by simpa using h), if_neg h]
    by_cases h2 : t > 1099511627776
    · rw [if_pos (decide_eq_true h2), if_pos h2]
    · rw [if_neg (by simpa using h2), if_neg h2]
theorem put_set {K V : Type} [DecidableEq K] {key : K} {r x : V} : ∀ {l : List (K × V)} {k : Nat}, l[k]? = some (key, r) → (∀ q ∈ l.take k, q.1 ≠ key) → mputL key x l = l.set k (key, x)
  | [], k, h, _ => by simp at h
  | p :: l, 0, h, _ => by
    simp at h; subst h
    simp [mputL]
  | p :: l, k + 1, h, ht => by
    have hp := ht p (by simp)
    unfold mputL
    rw [if_neg (fun e => hp e.symm), put_set (k := k) (by simpa using h) (fun q hq => ht q (by simp [hq]))]
    rfl
theorem del_cut {K V : Type} [DecidableEq K] {key : K} {r : V} : ∀ {l : List (K × V)} {k : Nat}, l[k]? = some (key, r) → (∀ q ∈ l.take k, q.1 ≠ key) → mdelL key l = l.take k ++ l.drop (k + 1)
  | [], k, h, _ => by simp at h
  | p :: l, 0, h, _ => by
    simp at h; subst h
    simp [mdelL]
  | p :: l, k + 1, h, ht => by
    have hp := ht p (by simp)
    unfold mdelL
    rw [if_neg (fun e => hp e.symm), del_cut (k := k) (by simpa using h) (fun q hq => ht q (by simp [hq]))]
    rfl
theorem put_none {K V : Type} [DecidableEq K] {key : K} {x : V} : ∀ {l : List (K × V)}, mfind key l = none → mputL key x l = l ++ [(key, x)]
  | [], _ => rfl
  | p :: l, h => by
    unfold mfind at h
    split at h
    · cases h
    · rename_i e
      unfold mputL
      rw [if_neg e, put_none h]; rfl
/-- where a device lies -/
structure At (l : DL) (u i : Str) (k : Nat) (r : device_record) : Prop where
  get : l[k]? = some (⟨u, i⟩, r)
  pre : ∀ q ∈ l.take k, q.1 ≠ ⟨u, i⟩
theorem At.lt {l : DL} {u i : Str} {k : Nat} {r : device_record} (h : At l u i k r) : k < l.length := (List.getElem?_eq_some_iff.1 h.get).1
theorem At.ix {l : DL} {u i : Str} {k : Nat} {r : device_record} (h : At l u i k r) : idx (l.map toDev) (k : Int) = some (toDev (⟨u, i⟩, r)) := by rw [idx_n, List.getElem?_map, h.get]; rfl
theorem At.put {l : DL} {u i : Str} {k : Nat} {r x : device_record} (h : At l u i k r) : setAt (l.map toDev) (k : Int) ⟨u, i, x.secret, x.challenge, x.until_⟩ = (mputL ⟨u, i⟩ x l).map toDev := by
  rw [put_set h.get h.pre, List.map_set]
  simp [setAt]
theorem At.put_at {l : DL} {u i : Str} {k : Nat} {r x : device_record} (h : At l u i k r) : At (mputL ⟨u, i⟩ x l) u i k x := by
  have := h.lt
  rw [put_set h.get h.pre]
  refine ⟨by simp [this], fun q hq => h.pre q ?_⟩
  rwa [List.take_set_of_le (Nat.le_refl k)] at hq
theorem At.find {l : DL} {u i : Str} {k : Nat} {r : device_record} (h : At l u i k r) (hn : nodupK l) : mfind ⟨u, i⟩ l = some r := mfind_of_mem hn (List.mem_of_getElem? h.get)
theorem rfind_loop (l : DL) (g : Int) (u i : Str) (hl : l.length ≤ 1000) : ∀ (r : DL) (j n : Nat), l.drop j = r → r.length < n → (∀ q ∈ l.take j, q.1 ≠ ⟨u, i⟩) →
    (∃ (k : Nat) (x : device_record), ref37_Devices_find_L1 n (rf l g) u i (j : Int) = some (k : Int) ∧ At l u i k x) ∨ (ref37_Devices_find_L1 n (rf l g) u i (j : Int) = some (-1) ∧ ∀ q ∈ l, q.1 ≠ ⟨u, i⟩) := by
  intro r
  induction r with
  | nil =>
    intro j n hd hn ht
    obtain ⟨n, rfl⟩ : ∃ k, n = k + 1 := ⟨n - 1, by simp at hn; omega⟩
    have := drop_nil hd
    rw [List.take_of_length_le this] at ht
    refine .inr ⟨?_, ht⟩
    simp only [ref37_Devices_find_L1, List.length_map, show ¬ ((j : Int) < l.length) by omega, decide_false, Bool.false_eq_true, if_false]
  | cons x r ih =>
    intro j n hd hn ht
    obtain ⟨n, rfl⟩ : ∃ k, n = k + 1 := ⟨n - 1, by simp at hn; omega⟩
    obtain ⟨h1, h2, h3⟩ := drop_more hd
    have hlt := drop_lt hd
    have e : ref37_Devices_find_L1 (n + 1) (rf l g) u i (j : Int) = if x.1.user == u && x.1.id == i then some (j : Int) else ref37_Devices_find_L1 n (rf l g) u i ((j + 1 : Nat) : Int) := by
      simp only [ref37_Devices_find_L1, List.length_map, show ((j : Int) < l.length) by omega, decide_true, if_true, idx_n, List.getElem?_map, h2, Option.map_some, Option.bind_some, w64n (show j < 9223372036854775807 by omega)]
      cases x.1.user == u <;> simp
    rw [e]
    by_cases hx : (x.1.user == u && x.1.id == i) = true
    · rw [if_pos hx]
      simp only [Bool.and_eq_true, beq_iff_eq] at hx
      refine .inl ⟨j, x.2, rfl, ?_, ht⟩
      rw [h2, ← hx.1, ← hx.2]
    · rw [if_neg hx]
      refine ih (j + 1) n h3 (by simp at hn; omega) fun q hq => ?_
      rw [take_more hd] at hq
      rcases List.mem_append.1 hq with hq | hq
      · exact ht q hq
      · simp at hq; subst hq
        intro e; apply hx; rw [e]; simp
theorem rfind {l : DL} {g : Int} {N : Nat} (h : Inv l g N) (u i : Str) :
    (∃ (k : Nat) (x : device_record), ref37_Devices_find (rf l g) u i = some (k : Int) ∧ At l u i k x ∧ mfind ⟨u, i⟩ l = some x) ∨ (ref37_Devices_find (rf l g) u i = some (-1) ∧ mfind (⟨u, i⟩ : device_key) l = none) := by
  have hl := h.len
  rcases rfind_loop l g u i (by omega) l 0 fuel rfl (by unfold fuel; omega) (by simp) with ⟨k, x, h1, h2⟩ | ⟨h1, h2⟩
  · exact .inl ⟨k, x, h1, h2, h2.find h.nd⟩
  · exact .inr ⟨h1, mfind_none.2 h2⟩
theorem rtrusted_eq {l : DL} {g : Int} {N : Nat} (h : Inv l g N) (u i : Str) (now : Int) : ref37_Devices_Trusted (rf l g) u i now = some (truD l u i now) := by
  unfold ref37_Devices_Trusted truD
  rcases rfind h u i with ⟨k, x, h1, h2, h3⟩ | ⟨h1, h2⟩
  · rw [h1, Option.bind_some, if_pos (by simp), ref15_Instant_eq, Option.bind_some, h2.ix, h3]; rfl
  · rw [h1, Option.bind_some, if_neg (by decide), h2]; rfl
theorem rready {l : DL} {g : Int} {N : Nat} (h : Inv l g N) (u i : Str) (now : Int) :
    (∃ (k : Nat) (x : device_record), ref37_Devices_ready (rf l g) u i now = some ((k : Int), 0) ∧ At l u i k x ∧ findR l u i now = (x, 0)) ∨ ((findR l u i now).2 ≠ 0 ∧ ref37_Devices_ready (rf l g) u i now = some (0, (findR l u i now).2)) := by
  unfold ref37_Devices_ready
  have ht := rtrusted_eq h u i now
  unfold truD at ht
  rcases rfind h u i with ⟨k, x, h1, h2, h3⟩ | ⟨h1, h2⟩
  · rw [h1, Option.bind_some, if_neg (by simp), ht, h3, Option.bind_some]
    unfold findR
    rw [h3]
    simp only
    by_cases hc : lim now < x.until_
    · rw [if_neg (by simpa using hc), if_neg (by omega)]
      exact .inl ⟨k, x, rfl, h2, rfl⟩
    · rw [if_pos (by simpa using hc), if_pos (by omega)]
      exact .inr ⟨by simp, rfl⟩
  · rw [h1, Option.bind_some, if_pos (by decide)]
    unfold findR
    rw [h2]
    exact .inr ⟨by simp, rfl⟩
theorem runique_eq (s : Str) (n : Nat) (hs : s.length ≤ 1000) (hn : n < 1000000) : ref28_Unique s (n : Int) = some (uniqS s n) := by
  have h1 := dec20 hn
  unfold ref28_Unique uniqS
  rw [ref02_Int_eq n (by omega), Option.bind_some, chk_t (by simp [fitS]; omega), chk_t (by simp [fitS]; omega), ref03_Text_eq _ (by unfold fits; simp; omega), Option.bind_some, chk_t (by simp [fitS, textS_len])]
/-- what the reference holds after the program's step -/
def rdv (d : device_Devices) : ref37_Devices := rf (d.records.getD []) d.given
theorem rchallenge_eq {l : DL} {g : Int} {N : Nat} (h : Inv l g N) (hN : N < 100000) (u i : Str) (now : Int) :
    ref37_Devices_Challenge (rf l g) u i now = some ((chalR l g u i now).1, (chalR l g u i now).2.1, rdv (chalR l g u i now).2.2) := by
  unfold ref37_Devices_Challenge chalR
  rcases rready h u i now with ⟨k, x, h1, h2, h3⟩ | ⟨h1, h2⟩
  · obtain ⟨hu, hi, _⟩ := h.good _ (mfind_mem (h2.find h.nd))
    have hu := word_len hu
    have hi := word_len hi
    simp only at hu hi
    have g0 := h.g0
    have g1 := h.g1
    have hw : IntKind.i64.wrap (g + 1) = (((g + 1).toNat : Nat) : Int) := by rw [w64 (by omega) (by omega)]; omega
    have hg : (((g + 1).toNat : Nat) : Int) = g + 1 := by omega
    rw [h1, Option.bind_some, if_neg (by simp), h3, if_pos rfl, chk_t (by simp [fitS]; omega), chk_t (by simp [fitS]; omega), hw, runique_eq _ _ (by simp; omega) (by omega), Option.bind_some, h2.ix, Option.bind_some]
    have e := h2.put (x := ⟨x.secret, uniqS (kk u i) (g + 1).toNat, x.until_⟩)
    have e2 := (h2.put_at (x := ⟨x.secret, uniqS (kk u i) (g + 1).toNat, x.until_⟩)).ix
    simp only [kk] at e e2
    simp only [toDev, e]
    simp only [toDev] at e2
    rw [e2, Option.bind_some, hg]
    rfl
  · rw [h2, Option.bind_some, if_pos (by simpa using h1), if_neg h1]; rfl
theorem ranswer_eq (a b : Str) (ha : mid a) (hb : mid b) : ref37_Answer a b = some (macS a b) := by
  unfold ref37_Answer; rw [ref03_Mac_eq a b ha hb]; rfl
theorem rprove_eq {l : DL} {g : Int} {N : Nat} (h : Inv l g N) (u i a : Str) (now : Int) :
    ref37_Devices_Prove (rf l g) u i a now = some ((provR l g u i a now).1, rdv (provR l g u i a now).2) := by
  unfold ref37_Devices_Prove provR
  rcases rready h u i now with ⟨k, x, h1, h2, h3⟩ | ⟨h1, h2⟩
  · obtain ⟨a1, a2, a3, a4, a5⟩ := h.good _ (mfind_mem (h2.find h.nd))
    have a3 := clean_len a3
    simp only at a3 a4
    rw [h1, Option.bind_some, if_neg (by simp), h3, if_pos rfl, h2.ix, Option.bind_some]
    simp only [toDev, Option.bind_some]
    by_cases hc : x.challenge = []
    · rw [if_pos (by simp [hc]), if_pos hc]; rfl
    · rw [if_neg (by simpa using hc), if_neg hc, ranswer_eq _ _ (by unfold mid; omega) (by unfold mid; rcases a4 with a4 | a4 <;> simp [a4]), Option.bind_some]
      have e := h2.put (x := ⟨x.secret, [], x.until_⟩)
      simp only at e
      rw [e, show (a == macS x.secret x.challenge) = (macS x.secret x.challenge == a) from Bool.beq_comm]
      cases hx : macS x.secret x.challenge == a <;> rfl
  · rw [h2, Option.bind_some, if_pos (by simpa using h1), if_neg h1]; rfl
theorem rrevoke_eq {l : DL} {g : Int} {N : Nat} (h : Inv l g N) (u i : Str) :
    ref37_Devices_Revoke (rf l g) u i = some ((mfind (⟨u, i⟩ : device_key) l).isSome, rf (mdelL ⟨u, i⟩ l) g) := by
  unfold ref37_Devices_Revoke
  have hl := h.len
  rcases rfind h u i with ⟨k, x, h1, h2, h3⟩ | ⟨h1, h2⟩
  · have hk := h2.lt
    rw [h1, Option.bind_some, if_neg (by simp), h3, del_cut h2.get h2.pre, w64n (show k < 9223372036854775807 by omega), chk_t (by rw [inc_0]; simp; omega), cut_0, chk_t (by simp [fitL]; omega), chk_t (by rw [inc_n]; simp; omega), cut_n, chk_t (by simp [fitL]; omega)]
    unfold ref37_Devices_Revoke_B1
    rw [List.take_of_length_le (l := (l.map toDev).drop (k + 1)) (by simp)]
    simp [List.map_take, List.map_drop]
  · rw [h1, Option.bind_some, if_pos (by decide), h2, del_none h2]; rfl
theorem rdrop_loop (l : DL) (g : Int) (u : Str) (hl : l.length ≤ 1000) : ∀ (r : DL) (j n : Nat) (out : DL), l.drop j = r → r.length < n → out = others u (l.take j) →
    ref37_Devices_Drop_L1 n (rf l g) u (out.map toDev) (j : Int) = some (((own u l).length : Int), rf (others u l) g) := by
  intro r
  induction r with
  | nil =>
    intro j n out hd hn ho
    obtain ⟨n, rfl⟩ : ∃ k, n = k + 1 := ⟨n - 1, by simp at hn; omega⟩
    have := drop_nil hd
    rw [List.take_of_length_le this] at ho
    have h2 := own_others u l
    simp only [ref37_Devices_Drop_L1, List.length_map, show ¬ ((j : Int) < l.length) by omega, decide_false, Bool.false_eq_true, if_false, ho, w64 (show -9223372036854775808 ≤ (l.length : Int) - ((others u l).length : Int) by omega) (by omega), rf]
    rw [show (l.length : Int) - ((others u l).length : Int) = ((own u l).length : Int) by omega]
  | cons x r ih =>
    intro j n out hd hn ho
    obtain ⟨n, rfl⟩ : ∃ k, n = k + 1 := ⟨n - 1, by simp at hn; omega⟩
    obtain ⟨h1, h2, h3⟩ := drop_more hd
    have hlt := drop_lt hd
    have hol : out.length ≤ j := by
      rw [ho]; unfold others
      have := List.length_filter_le (fun p : device_key × device_record => !(p.1.user == u)) (l.take j)
      simp at this; omega
    simp only [ref37_Devices_Drop_L1, List.length_map, show ((j : Int) < l.length) by omega, decide_true, if_true, idx_n, List.getElem?_map, h2, Option.map_some, Option.bind_some, ref37_Devices_Drop_B2, w64n (show j < 9223372036854775807 by omega)]
    by_cases hx : x.1.user = u
    · rw [if_neg (by simp [hx])]
      refine ih (j + 1) n out h3 (by simp at hn; omega) ?_
      rw [take_more hd, ho]; simp [others, hx]
    · rw [if_pos (by simpa using hx), chk_t (by simp [fitL]; omega)]
      have := ih (j + 1) n (out ++ [x]) h3 (by simp at hn; omega) (by rw [take_more hd, ho]; simp [others, hx])
      rw [List.map_append] at this
      exact this
theorem rdrop_eq {l : DL} {g : Int} {N : Nat} (h : Inv l g N) (u : Str) : ref37_Devices_Drop (rf l g) u = some (((own u l).length : Int), rf (others u l) g) := by
  have hl := h.len
  exact rdrop_loop l g u (by omega) l 0 fuel [] rfl (by unfold fuel; omega) rfl
/-! sorted by insertion -/
def insA (x : Str) : List Str → List Str
  | [] => [x]
  | y :: r => if sLt y x then y :: insA x r else if y == x then y :: r else x :: y :: r
theorem insA_spec (s : Str) : ∀ l : List Str, asc l → asc (insA s l) ∧ ∀ x, x ∈ insA s l ↔ x = s ∨ x ∈ l
  | [], _ => by constructor <;> simp [insA, asc]
  | y :: r, h => by
    obtain ⟨h1, h2⟩ := List.pairwise_cons.1 h
    obtain ⟨i1, i2⟩ := insA_spec s r h2
    unfold insA
    cases hc : sLt y s with
    | true =>
      have hlt : y < s := by rw [sLt_eq] at hc; exact of_decide_eq_true hc
      rw [if_pos rfl]
      refine ⟨List.pairwise_cons.2 ⟨fun z hz => ?_, i1⟩, fun x => ?_⟩
      · rcases (i2 z).1 hz with rfl | hz
        · exact hlt
        · exact h1 z hz
      · simp only [List.mem_cons, i2]
        constructor
        · rintro (h | h | h) <;> simp [h]
        · rintro (h | h | h) <;> simp [h]
    | false =>
      have hle : s ≤ y := by rw [sLt_eq] at hc; exact str_not_lt.1 (of_decide_eq_false hc)
      rw [if_neg (by simp)]
      by_cases hy : y = s
      · subst hy
        rw [if_pos (by simp)]
        exact ⟨h, fun x => by simp⟩
      · rw [if_neg (by simpa using hy)]
        have hlt : s < y := str_lt_of hle fun e => hy e.symm
        refine ⟨List.pairwise_cons.2 ⟨fun z hz => ?_, h⟩, fun x => by simp⟩
        rcases List.mem_cons.1 hz with rfl | hz
        · exact hlt
        · exact str_lt_trans hlt (h1 z hz)
theorem insA_len (s : Str) : ∀ l : List Str, (insA s l).length ≤ l.length + 1
  | [] => by simp [insA]
  | y :: r => by
    have := insA_len s r
    unfold insA
    split
    · simp; omega
    · split <;> simp
theorem asc_inner (r0 : List Str → List Str → Int → Option (List Str)) (l out : List Str) (i : Nat) (x : Str) (hx : l[i]? = some x) (hl : l.length ≤ 1000) (ho : out.length ≤ 1000) :
    ∀ (q : List Str) (k n : Nat), out.drop k = q → k ≤ out.length → q.length < n →
    ref09_Ascending_L2 r0 n l out (i : Int) (k : Int) = r0 l (out.take k ++ insA x q) ((i + 1 : Nat) : Int) := by
  have hi : i < l.length := (List.getElem?_eq_some_iff.1 hx).1
  have fin : ∀ (n k : Nat), k ≤ out.length → (chk (inc 0 (k : Int) out.length) (
              chk (fitL ([] : List Str).length (cut out 0 (k : Int)).length) (
                (idx l (i : Int)).bind fun y81 =>
                  chk (fitL (([] : List Str) ++ (cut out 0 (k : Int))).length ([y81] : List Str).length) (
                    chk (inc (k : Int) out.length out.length) (
                      chk (fitL ((([] : List Str) ++ (cut out 0 (k : Int))) ++ ([y81] : List Str)).length (cut out (k : Int) out.length).length) (
                        ref09_Ascending_B3 r0 (ref09_Ascending_L2 r0 n) l (((([] : List Str) ++ (cut out 0 (k : Int))) ++ ([y81] : List Str)) ++ (cut out (k : Int) out.length)) (i : Int))))))) = r0 l (out.take k ++ x :: out.drop k) ((i + 1 : Nat) : Int) := by
    intro n k hk
    rw [chk_t (by rw [inc_0]; simp; omega), cut_0, chk_t (by simp [fitL]; omega), idx_n, hx, Option.bind_some, chk_t (by simp [fitL]; omega), chk_t (by rw [inc_n]; simp; omega), cut_n, chk_t (by simp [fitL]; omega)]
    unfold ref09_Ascending_B3
    rw [w64n (show i < 9223372036854775807 by omega), List.take_of_length_le (l := out.drop k) (by simp)]
    simp
  intro q
  induction q with
  | nil =>
    intro k n hd hk hn
    obtain ⟨n, rfl⟩ : ∃ k, n = k + 1 := ⟨n - 1, by simp at hn; omega⟩
    have := drop_nil hd
    have hf := fin n k hk
    rw [ref09_Ascending_L2]
    simp only [show ¬ ((k : Int) < out.length) by omega, decide_false, Bool.false_eq_true, if_false, Option.bind_some]
    rw [hf, hd]; rfl
  | cons y q ih =>
    intro k n hd hk hn
    obtain ⟨n, rfl⟩ : ∃ k, n = k + 1 := ⟨n - 1, by simp at hn; omega⟩
    obtain ⟨h1, h2, h3⟩ := drop_more hd
    have hlt := drop_lt hd
    have hf := fin n k hk
    rw [ref09_Ascending_L2]
    unfold insA
    have ix : idx out (k : Int) = some y := by rw [idx_n, h2]
    have iy : idx l (i : Int) = some x := by rw [idx_n, hx]
    rw [ix]
    simp only [show ((k : Int) < out.length) by omega, decide_true, if_true, Option.bind_some]
    rw [iy]
    simp only [Option.bind_some]
    rw [iy] at hf
    simp only [Option.bind_some] at hf
    cases hc : sLt y x with
    | true =>
      simp only [if_true]
      rw [w64n (show k < 9223372036854775807 by omega), ih (k + 1) n h3 (by omega) (by simp at hn; omega), take_more hd, List.append_assoc]; rfl
    | false =>
      simp only [Bool.false_eq_true, if_false]
      cases hy : y == x with
      | true =>
        simp only [if_true]
        unfold ref09_Ascending_B3
        rw [w64n (show i < 9223372036854775807 by omega), ← hd, List.take_append_drop]
      | false =>
        simp only [Bool.false_eq_true, if_false]
        rw [hf, hd]
theorem ascending_eq (l : List Str) (hl : l.length ≤ 1000) (hn : l.Nodup) : ref09_Ascending l = some (sortS l) := by
  have key : ∀ (r : List Str) (i n : Nat) (out : List Str), l.drop i = r → i ≤ l.length → out.length ≤ i → r.length < n → asc out → (∀ x, x ∈ out ↔ x ∈ l.take i) →
      ref09_Ascending_L1 n l out (i : Int) = some (sortS l) := by
    intro r
    induction r with
    | nil =>
      intro i n out hd hi ho hn ha hm
      obtain ⟨n, rfl⟩ : ∃ k, n = k + 1 := ⟨n - 1, by simp at hn; omega⟩
      have hle := drop_nil hd
      simp only [ref09_Ascending_L1, show ¬ ((i : Int) < l.length) by omega, decide_false, Bool.false_eq_true, if_false, Option.some.injEq]
      rw [List.take_of_length_le hle] at hm
      exact asc_unique ha (sortS_asc (by assumption)) fun x => (hm x).trans ((sortS_perm l).mem_iff).symm
    | cons x r ih =>
      intro i n out hd hi ho hn ha hm
      obtain ⟨n, rfl⟩ : ∃ k, n = k + 1 := ⟨n - 1, by simp at hn; omega⟩
      obtain ⟨h1, h2, h3⟩ := drop_more hd
      have hlt := drop_lt hd
      have hin := asc_inner (ref09_Ascending_L1 n) l out i x h2 hl (by omega) out 0 fuel rfl (by omega) (by unfold fuel; omega)
      have hin' : ref09_Ascending_L2 (ref09_Ascending_L1 n) fuel l out (i : Int) 0 = _ := hin
      obtain ⟨s1, s2⟩ := insA_spec x out ha
      have s3 := insA_len x out
      simp only [ref09_Ascending_L1, show ((i : Int) < l.length) by omega, decide_true, if_true, hin', List.take_zero, List.nil_append]
      refine ih (i + 1) n _ h3 (by omega) (by omega) (by simp at hn; omega) s1 fun y => ?_
      rw [s2, hm, take_more hd]
      simp [or_comm]
  exact key l 0 fuel [] rfl (by omega) (by simp) (by unfold fuel; omega) List.Pairwise.nil (by simp)
theorem mineL_nodup {l : DL} (hn : nodupK l) (u : Str) (now : Int) : (mineL u now l).Nodup := by
  induction l with
  | nil => simp [mineL]
  | cons p r ih =>
    obtain ⟨h1, h2⟩ := nodupK_cons.1 hn
    rw [mineL_cons]
    split
    · rename_i hc
      simp only [Bool.and_eq_true, beq_iff_eq] at hc
      rw [List.nodup_cons]
      refine ⟨fun hm => ?_, ih h2⟩
      unfold mineL at hm
      obtain ⟨q, hq, e⟩ := List.mem_map.1 hm
      obtain ⟨q1, q2⟩ := List.mem_filter.1 hq
      simp only [Bool.and_eq_true, beq_iff_eq] at q2
      refine h1 q q1 ?_
      have e1 : q.1.user = p.1.user := by rw [q2.1, hc.1]
      cases hq1 : q.1; cases hp1 : p.1
      simp_all
    · exact ih h2
theorem rlist_loop (l : DL) (g : Int) (u : Str) (now : Int) (hn : nodupK l) (hl : l.length ≤ 1000) : ∀ (r : DL) (j n : Nat), l.drop j = r → r.length < n →
    ref37_Devices_List_L1 n (rf l g) u now (mineL u now (l.take j)) (j : Int) = some (sortS (mineL u now l)) := by
  intro r
  induction r with
  | nil =>
    intro j n hd hn'
    obtain ⟨n, rfl⟩ : ∃ k, n = k + 1 := ⟨n - 1, by simp at hn'; omega⟩
    have := drop_nil hd
    rw [List.take_of_length_le this]
    have h2 := mineL_len u now l
    simp only [ref37_Devices_List_L1, List.length_map, show ¬ ((j : Int) < l.length) by omega, decide_false, Bool.false_eq_true, if_false, ascending_eq _ (show (mineL u now l).length ≤ 1000 by omega) (mineL_nodup hn u now), Option.bind_some]
  | cons x r ih =>
    intro j n hd hn'
    obtain ⟨n, rfl⟩ : ∃ k, n = k + 1 := ⟨n - 1, by simp at hn'; omega⟩
    obtain ⟨h1, h2, h3⟩ := drop_more hd
    have hlt := drop_lt hd
    have hm := mineL_len u now (l.take j)
    have hml : (mineL u now (l.take j)).length ≤ j := by simp at hm; omega
    have e := ih (j + 1) n h3 (by simp at hn'; omega)
    have e1 : mineL u now (l.take (j + 1)) = mineL u now (l.take j) ++ if (x.1.user == u) && decide (lim now < x.2.until_) then [x.1.id] else [] := by
      rw [take_more hd]
      unfold mineL
      rw [List.filter_append, List.map_append]
      cases hc : (x.1.user == u) && decide (lim now < x.2.until_) <;> simp [hc]
    rw [e1] at e
    simp only [ref37_Devices_List_L1, List.length_map, show ((j : Int) < l.length) by omega, decide_true, if_true, idx_n, List.getElem?_map, h2, Option.map_some, Option.bind_some, ref37_Devices_List_B2, w64n (show j < 9223372036854775807 by omega), ref15_Instant_eq, toDev]
    by_cases hx : (x.1.user == u) = true
    · rw [if_pos hx, Option.bind_some]
      rw [hx, Bool.true_and] at e
      by_cases ht : lim now < x.2.until_
      · rw [if_pos (decide_eq_true ht), chk_t (by simp [fitL]; omega)]
        rw [if_pos (decide_eq_true ht)] at e
        exact e
      · rw [if_neg (by simpa using ht)]
        rw [if_neg (by simpa using ht), List.append_nil] at e
        exact e
    · rw [if_neg hx, Option.bind_some, if_neg (by simp)]
      rw [Bool.eq_false_iff.2 hx, Bool.false_and, if_neg (by simp), List.append_nil] at e
      exact e
theorem rlist_eq {l : DL} {g : Int} {N : Nat} (h : Inv l g N) (u : Str) (now : Int) : ref37_Devices_List (rf l g) u now = some (sortS (mineL u now l)) := by
  have hl := h.len
  exact rlist_loop l g u now h.nd (by omega) l 0 fuel rfl (by unfold fuel; omega)
theorem put_put {l : DL} {u i : Str} {k : Nat} {r x y : device_record} (h : At l u i k r) : mputL ⟨u, i⟩ y (mputL ⟨u, i⟩ x l) = mputL ⟨u, i⟩ y l := by
  have h2 := h.put_at (x := x)
  rw [put_set h2.get h2.pre, put_set h.get h.pre, put_set h.get h.pre, List.set_set]
theorem put_self {l : DL} {u i : Str} {k : Nat} {r : device_record} (h : At l u i k r) : mputL ⟨u, i⟩ r l = l := by
  rw [put_set h.get h.pre]
  refine List.ext_getElem? fun j => ?_
  rw [List.getElem?_set]
  split
  · rename_i e; subst e
    rw [if_pos h.lt, h.get]
  · rfl
theorem rtrust_B1 {l : DL} {u i : Str} {k : Nat} {r : device_record} (g : Int) (s : Str) (h : At l u i k r) :
    ref37_Devices_Trust_B1 (rf l g) s (k : Int) = some (0, rf (mputL ⟨u, i⟩ ⟨s, if r.secret = s then r.challenge else [], r.until_⟩ l) g) := by
  unfold ref37_Devices_Trust_B1 ref37_Devices_Trust_B2
  simp only [rf, h.ix, Option.bind_some, toDev]
  by_cases hs : r.secret = s
  · rw [if_neg (by simp [hs]), if_pos hs, show (⟨s, r.challenge, r.until_⟩ : device_record) = r by rw [← hs], put_self h]
  · rw [if_pos (by simpa using hs), if_neg hs]
    have e1 := h.put (x := ⟨s, r.challenge, r.until_⟩)
    have h2 := h.put_at (x := ⟨s, r.challenge, r.until_⟩)
    have e2 := h2.put (x := ⟨s, [], r.until_⟩)
    have e3 := h2.ix
    simp only [toDev] at e1 e2 e3
    rw [e1, e3, Option.bind_some, e2, put_put h]
theorem rtrust_eq {l : DL} {g : Int} {N : Nat} (h : Inv l g N) (u i s : Str) (un now : Int) (hu : fits u) (hi : fits i) (hs : fits s) :
    ref37_Devices_Trust (rf l g) u i s un now = some ((trustR l g u i s un now).1, rdv (trustR l g u i s un now).2) := by
  have hl := h.len
  unfold ref37_Devices_Trust trustR
  have e : (if (!word u) = true then some true else some (!word i)) = some (!word u || !word i) := by cases word u <;> rfl
  rw [ref01_Word_eq u hu, ref01_Word_eq i hi, Option.bind_some, Option.bind_some, e, Option.bind_some, ref01_Clean_eq s hs, Option.bind_some, ref15_Instant_eq, ref15_Instant_eq]
  simp only [Option.bind_some]
  by_cases h1 : (!word u || !word i) = true
  · have hE : trE l u i s un now = 5 := by unfold trE; rw [if_pos h1]
    rw [if_pos h1, hE, if_neg (by decide)]; rfl
  rw [if_neg h1]
  by_cases h2 : (!clean s) = true
  · have hE : trE l u i s un now = 4 := by unfold trE; rw [if_neg h1, if_pos h2]
    rw [if_pos h2, hE, if_neg (by decide)]; rfl
  rw [if_neg h2]
  by_cases h3 : lim un ≤ lim now
  · have hE : trE l u i s un now = 13 := by unfold trE; rw [if_neg h1, if_neg h2, if_pos h3]
    rw [if_pos (decide_eq_true h3), hE, if_neg (by decide)]; rfl
  rw [if_neg (by simpa using h3)]
  have hE : trE l u i s un now = if (mfind (⟨u, i⟩ : device_key) l).isSome = false ∧ 256 ≤ l.length then 3 else 0 := by unfold trE; rw [if_neg h1, if_neg h2, if_neg h3]
  have h0 := lim_range now
  rcases rfind h u i with ⟨k, x, f1, f2, f3⟩ | ⟨f1, f2⟩
  · have hE : trE l u i s un now = 0 := by rw [hE, if_neg (by rw [f3]; simp)]
    rw [hE, if_pos rfl, f1, Option.bind_some, if_neg (by simp), f2.ix, Option.bind_some]
    have eR : trR l u i s un = ⟨s, if x.secret = s then x.challenge else [], gmax x.until_ (lim un)⟩ := by unfold trR; rw [f3]; rfl
    have eL : trL l u i s un = mputL ⟨u, i⟩ (trR l u i s un) l := by
      unfold trL
      split
      · rename_i e; rw [e, f3]; exact (put_self f2).symm
      · rfl
    simp only [toDev]
    rw [eL, eR]
    by_cases hc : x.until_ < lim un
    · rw [if_pos (decide_eq_true hc)]
      have e1 := f2.put (x := ⟨x.secret, x.challenge, lim un⟩)
      simp only at e1
      have hg : gmax x.until_ (lim un) = lim un := by unfold gmax; rw [if_pos hc]
      rw [Option.bind_some, e1, rtrust_B1 g s f2.put_at, put_put f2, hg]; rfl
    · rw [if_neg (by simpa using hc), rtrust_B1 g s f2]
      have hg : gmax x.until_ (lim un) = x.until_ := by unfold gmax; rw [if_neg hc]
      rw [hg]; rfl
  · rw [f1, Option.bind_some, if_pos (by decide)]
    by_cases hc : 256 ≤ l.length
    · have hE : trE l u i s un now = 3 := by rw [hE, if_pos ⟨by rw [f2]; rfl, hc⟩]
      rw [if_pos (by simp; omega), hE, if_neg (by decide)]; rfl
    · have hE : trE l u i s un now = 0 := by rw [hE, if_neg (fun h => hc h.2)]
      have eR : trR l u i s un = ⟨s, [], lim un⟩ := by
        unfold trR
        rw [f2]
        have e1 : gmax ((none : Option device_record).getD zr).until_ (lim un) = lim un := by
          show gmax 0 (lim un) = lim un
          unfold gmax
          rw [if_pos (by omega)]
        rw [e1]
        congr 1
        split <;> rfl
      have eL : trL l u i s un = mputL ⟨u, i⟩ (trR l u i s un) l := by
        unfold trL
        rw [if_neg]
        rw [eR, f2]
        intro e
        have := congrArg device_record.until_ e
        simp only [Option.getD_none, zr] at this
        omega
      rw [if_neg (by simp; omega), chk_t (by simp [fitL]; omega), hE, if_pos rfl, eL, eR, put_none f2]
      simp [rdv, rf, toDev]
theorem same_self (l : List Str) (hl : l.length ≤ 1000) : ref02_Same l l = some true := by
  have key : ∀ (r : List Str) (i n : Nat), l.drop i = r → i ≤ l.length → r.length < n → ref02_Same_L1 n l l (i : Int) = some true := by
    intro r
    induction r with
    | nil =>
      intro i n hd hi hn
      obtain ⟨n, rfl⟩ : ∃ k, n = k + 1 := ⟨n - 1, by simp at hn; omega⟩
      have := drop_nil hd
      simp only [ref02_Same_L1, show ¬ ((i : Int) < l.length) by omega, decide_false, Bool.false_eq_true, if_false]
    | cons x r ih =>
      intro i n hd hi hn
      obtain ⟨n, rfl⟩ : ∃ k, n = k + 1 := ⟨n - 1, by simp at hn; omega⟩
      obtain ⟨h1, h2, h3⟩ := drop_more hd
      have hlt := drop_lt hd
      simp only [ref02_Same_L1, show ((i : Int) < l.length) by omega, decide_true, if_true, idx_n, h2, Option.bind_some, beq_self_eq_true, Bool.not_true, Bool.false_eq_true, if_false, w64n (show i < 9223372036854775807 by omega)]
      exact ih (i + 1) n h3 (by omega) (by simp at hn; omega)
  unfold ref02_Same
  have := key l 0 fuel rfl (by omega) (by unfold fuel; omega)
  simpa using this
/-- the program and the specification take the same step -/
theorem both {l : DL} {g : Int} {N : Nat} (h : Inv l g N) (hN : N < 100000) (o : law37_Op) (last : Str) (ho : shortOp o) (hl : last.length ≤ 300) :
    ∃ r l' g', law37_do ⟨some l, g⟩ o last = some (r, ⟨some l', g'⟩) ∧ law37_model (rf l g) o last = some (r, rf l' g') ∧ Inv l' g' (N + 1) ∧ r.text.length ≤ 300 ∧ r.list.length ≤ 256 := by
  obtain ⟨r, l', g', e1, e2, e3, _⟩ := do_ok h hN o last ho hl
  refine ⟨r, l', g', e1, ?_, e2, e3, ?_⟩
  all_goals
    obtain ⟨h1, h2, h3⟩ := ho
    have f1 := short_fits h1
    have f2 := short_fits h2
    have f3 := short_fits h3
    unfold law37_do law37_do_B1 at e1
  · unfold law37_model law37_model_B1
    have fin : ∀ {d : device_Devices} {a : law37_result}, some (a, d) = some (r, (⟨some l', g'⟩ : device_Devices)) → some (a, rdv d) = some (r, rf l' g') := by
      intro d a e
      simp only [Option.some.injEq, Prod.mk.injEq] at e
      rw [e.1, e.2]; rfl
    by_cases k1 : o.Kind = 1
    · rw [if_pos (by simpa using k1), trust_eq _ _ _ _ _ _ _ f1 f2 f3, Option.bind_some] at e1
      rw [if_pos (by simpa using k1), rtrust_eq h _ _ _ _ _ f1 f2 f3, Option.bind_some]
      exact fin e1
    rw [if_neg (by simpa using k1)] at e1 ⊢
    by_cases k2 : o.Kind = 2
    · rw [if_pos (by simpa using k2), challenge_eq h hN, Option.bind_some] at e1
      rw [if_pos (by simpa using k2), rchallenge_eq h hN, Option.bind_some]
      exact fin e1
    rw [if_neg (by simpa using k2)] at e1 ⊢
    by_cases k3 : o.Kind = 3
    · rw [if_pos (by simpa using k3), prove_eq h, Option.bind_some] at e1
      rw [if_pos (by simpa using k3), rprove_eq h, Option.bind_some]
      exact fin e1
    rw [if_neg (by simpa using k3)] at e1 ⊢
    by_cases k4 : o.Kind = 4
    · rw [if_pos (by simpa using k4), answer_eq _ _ (short_mid h3) (short_mid hl), Option.bind_some, prove_eq h, Option.bind_some] at e1
      rw [if_pos (by simpa using k4), ranswer_eq _ _ (short_mid h3) (short_mid hl), Option.bind_some, rprove_eq h, Option.bind_some]
      exact fin e1
    rw [if_neg (by simpa using k4)] at e1 ⊢
    by_cases k5 : o.Kind = 5
    · rw [if_pos (by simpa using k5), revoke_eq, Option.bind_some] at e1
      rw [if_pos (by simpa using k5), rrevoke_eq h, Option.bind_some]
      exact fin (d := ⟨some (mdelL ⟨o.User, o.ID⟩ l), g⟩) e1
    rw [if_neg (by simpa using k5)] at e1 ⊢
    by_cases k6 : o.Kind = 6
    · rw [if_pos (by simpa using k6), list_eq h, Option.bind_some] at e1
      rw [if_pos (by simpa using k6), rlist_eq h, Option.bind_some]
      exact fin (d := ⟨some l, g⟩) e1
    rw [if_neg (by simpa using k6)] at e1 ⊢
    by_cases k7 : o.Kind = 7
    · rw [if_pos (by simpa using k7), drop_eq h, Option.bind_some] at e1
      rw [if_pos (by simpa using k7), rdrop_eq h, Option.bind_some]
      exact fin (d := ⟨some (others o.User l), g⟩) e1
    rw [if_neg (by simpa using k7)] at e1 ⊢
    by_cases k8 : o.Kind = 8
    · rw [if_pos (by simpa using k8), trusted_eq, Option.bind_some] at e1
      rw [if_pos (by simpa using k8), rtrusted_eq h, Option.bind_some]
      exact fin (d := ⟨some l, g⟩) e1
    rw [if_neg (by simpa using k8)] at e1 ⊢
    exact fin (d := ⟨some l, g⟩) e1
  · have fin : ∀ {d e : device_Devices} {a : law37_result}, some (a, d) = some (r, e) → a.list.length ≤ 256 → r.list.length ≤ 256 := by
      intro d e a e1 h
      simp only [Option.some.injEq, Prod.mk.injEq] at e1
      rw [← e1.1]; exact h
    by_cases k1 : o.Kind = 1
    · rw [if_pos (by simpa using k1), trust_eq _ _ _ _ _ _ _ f1 f2 f3, Option.bind_some] at e1
      exact fin e1 (by simp)
    rw [if_neg (by simpa using k1)] at e1
    by_cases k2 : o.Kind = 2
    · rw [if_pos (by simpa using k2), challenge_eq h hN, Option.bind_some] at e1
      exact fin e1 (by simp)
    rw [if_neg (by simpa using k2)] at e1
    by_cases k3 : o.Kind = 3
    · rw [if_pos (by simpa using k3), prove_eq h, Option.bind_some] at e1
      exact fin e1 (by simp)
    rw [if_neg (by simpa using k3)] at e1
    by_cases k4 : o.Kind = 4
    · rw [if_pos (by simpa using k4), answer_eq _ _ (short_mid h3) (short_mid hl), Option.bind_some, prove_eq h, Option.bind_some] at e1
      exact fin e1 (by simp)
    rw [if_neg (by simpa using k4)] at e1
    by_cases k5 : o.Kind = 5
    · rw [if_pos (by simpa using k5), revoke_eq, Option.bind_some] at e1
      exact fin e1 (by simp)
    rw [if_neg (by simpa using k5)] at e1
    by_cases k6 : o.Kind = 6
    · rw [if_pos (by simpa using k6), list_eq h, Option.bind_some] at e1
      refine fin e1 ?_
      have hm := mineL_len o.User o.Now l
      have := h.len
      simp only
      rw [(sortS_perm _).length_eq]; omega
    rw [if_neg (by simpa using k6)] at e1
    by_cases k7 : o.Kind = 7
    · rw [if_pos (by simpa using k7), drop_eq h, Option.bind_some] at e1
      exact fin e1 (by simp)
    rw [if_neg (by simpa using k7)] at e1
    by_cases k8 : o.Kind = 8
    · rw [if_pos (by simpa using k8), trusted_eq, Option.bind_some] at e1
      exact fin e1 (by simp)
    rw [if_neg (by simpa using k8)] at e1
    exact fin e1 (by simp)
theorem does_loop (ops : List law37_Op) (hf : fits ops) (ho : ∀ o ∈ ops, shortOp o) : ∀ (r : List law37_Op) (i n N : Nat) (l : DL) (g : Int) (last : Str), ops.drop i = r → r.length < n → Inv l g N → N + r.length < 100000 → last.length ≤ 300 →
    law37_DeviceDoes_L1 n ops ⟨some l, g⟩ (rf l g) last (ops.length : Int) (i : Int) = some true := by
  unfold fits at hf
  intro r
  induction r with
  | nil =>
    intro i n N l g last hd hn h hN hl
    obtain ⟨n, rfl⟩ : ∃ k, n = k + 1 := ⟨n - 1, by simp at hn; omega⟩
    have := drop_nil hd
    simp only [law37_DeviceDoes_L1, show ¬ ((i : Int) < ops.length) by omega, decide_false, Bool.false_eq_true, if_false, live37, Option.bind_some]
  | cons o r ih =>
    intro i n N l g last hd hn h hN hl
    obtain ⟨n, rfl⟩ : ∃ k, n = k + 1 := ⟨n - 1, by simp at hn; omega⟩
    obtain ⟨h1, h2, h3⟩ := drop_more hd
    have hlt := drop_lt hd
    simp only [List.length_cons] at hn hN
    obtain ⟨x, l1, g1, e1, e2, e3, e4, e5⟩ := both h (by omega) o last (ho o (List.mem_of_getElem? h2)) hl
    simp only [law37_DeviceDoes_L1, show ((i : Int) < ops.length) by omega, decide_true, if_true, idx_n, h2, Option.bind_some, e1, e2, law37_DeviceDoes_B2, law37_DeviceDoes_B3, w64n (show i < 9223372036854775807 by omega),
      beq_self_eq_true, Bool.not_true, Bool.false_eq_true, if_false, same_self x.list (by omega), bne_self_eq_false, Bool.or_false]
    split
    · exact ih (i + 1) n (N + 1) l1 g1 x.text h3 (by omega) e3 (by omega) e4
    · exact ih (i + 1) n (N + 1) l1 g1 last h3 (by omega) e3 (by omega) hl
theorem does_true (ops : List law37_Op) (hf : fits ops) : law37_DeviceDoes ops = some true := by
  unfold law37_DeviceDoes
  show (some (device_Devices.mk (some []) 0)).bind _ = _
  rw [Option.bind_some]
  rcases long_gate ops 20 hf with h | ⟨h, hm, ho⟩
  · have h' : law37_long ops 20 = some true := h
    rw [h', Option.bind_some, if_pos (by rfl), live37]; rfl
  · have h' : law37_long ops 20 = some false := h
    rw [h', Option.bind_some, if_neg (by decide)]
    show (some (ref37_Devices.mk [] 0)).bind _ = _
    rw [Option.bind_some]
    have := does_loop ops hf ho ops 0 fuel 0 [] 0 [] rfl (fuel_pos hf) inv_new (by omega) (by simp)
    exact this
end Go.KW.S
