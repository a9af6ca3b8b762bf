/- Own work: a part of the proofs of this seat. -/
import Derived.Test.YtnhlljejhjbepaaDoorKwPlain
import Derived.Test.YtnhlljejhjbepaaDoorKwDS
import Derived.KernelRfl
import Derived.Laws.RangeString
import Derived.Laws.RangeAny
set_option linter.unusedVariables false
set_option linter.unusedSimpArgs false
namespace Go.KW.S
open Go Go.KW
/-! ### values: printable strings -/
def prt (u : UInt8) : Bool := decide (32 ≤ u.toNat) && decide (u.toNat ≤ 126)
def clean (s : Str) : Bool := s.all prt && (decide (1 ≤ s.length) && decide (s.length ≤ 256)) && (!(s.head? == some 32) && !(s.getLast? == some 32))
theorem dw_len (p : UInt8 → Bool) (l : Str) : (l.dropWhile p).length ≤ l.length := (List.dropWhile_suffix p).length_le
theorem trimB_eq (s : Str) : ((Lib.trimB s 32 == s) = (!(s.head? == some 32) && !(s.getLast? == some 32))) ∨ s = [] := by
  cases s with
  | nil => exact .inr rfl
  | cons a r =>
    refine .inl ?_
    rw [Bool.eq_iff_iff]
    simp only [beq_iff_eq, Bool.and_eq_true, Bool.not_eq_true', beq_eq_false_iff_ne, ne_eq]
    have hr : ∀ l : Str, (Lib.trimRightB l 32).length ≤ l.length := fun l => by
      unfold Lib.trimRightB
      rw [List.length_reverse]
      exact Nat.le_trans (dw_len _ _) (by simp)
    have hl : ∀ l : Str, (Lib.trimLeftB l 32).length ≤ l.length := fun l => dw_len _ _
    constructor
    · intro h
      have h1 : (Lib.trimRightB (a :: r) 32).length = (a :: r).length := by
        have e := congrArg List.length h
        unfold Lib.trimB at e
        have := hr (a :: r); have := hl (Lib.trimRightB (a :: r) 32)
        omega
      have h2 : Lib.trimRightB (a :: r) 32 = a :: r := by
        unfold Lib.trimRightB at h1 ⊢
        rw [List.length_reverse] at h1
        have hs := List.dropWhile_suffix (fun x : UInt8 => x == 32) (l := (a :: r).reverse)
        have := hs.eq_of_length (by rw [h1]; simp)
        rw [this, List.reverse_reverse]
      unfold Lib.trimB at h
      rw [h2] at h
      refine ⟨fun e => ?_, fun e => ?_⟩
      · simp at e
        subst e
        unfold Lib.trimLeftB at h
        have e2 := congrArg List.length h
        simp only [List.dropWhile_cons, beq_self_eq_true, if_true] at e2
        have := dw_len (fun x : UInt8 => x == 32) r
        simp at e2; omega
      · unfold Lib.trimRightB at h2
        have e3 : (a :: r).reverse.dropWhile (fun x => x == 32) = (a :: r).reverse := by rw [← List.reverse_reverse ((a :: r).reverse.dropWhile fun x => x == 32), h2]
        rw [List.getLast?_eq_head?_reverse] at e
        cases hrv : (a :: r).reverse with
        | nil => simp at hrv
        | cons b q =>
          rw [hrv] at e e3
          simp at e
          subst e
          have e2 := congrArg List.length e3
          simp only [List.dropWhile_cons, beq_self_eq_true, if_true] at e2
          have := dw_len (fun x : UInt8 => x == 32) q
          simp at e2; omega
    · rintro ⟨h1, h2⟩
      have e1 : Lib.trimRightB (a :: r) 32 = a :: r := by
        unfold Lib.trimRightB
        rw [List.getLast?_eq_head?_reverse] at h2
        cases hrv : (a :: r).reverse with
        | nil => simp at hrv
        | cons b q =>
          rw [hrv] at h2
          have hb : (b == 32) = false := by simpa using h2
          rw [List.dropWhile_cons, hb]
          simp only [Bool.false_eq_true, if_false]
          rw [← hrv, List.reverse_reverse]
      unfold Lib.trimB
      rw [e1]
      have ha : (a == 32) = false := by simpa using h1
      simp [Lib.trimLeftB, List.dropWhile_cons, ha]
theorem sdec_low {s : Str} {p : Nat} {u : UInt8} (h : s[p]? = some u) (hu : u.toNat < 128) : sdec s p = ((u.toNat : Int), 1) := by
  obtain ⟨h1, h2⟩ := List.getElem?_eq_some_iff.1 h
  have hs : p < (⟨s.toArray⟩ : ByteArray).size := by rw [str_size]; exact h1
  have hget : (⟨s.toArray⟩ : ByteArray)[p]'hs = u := by rw [← h2]; rfl
  have := decode_ascii ⟨s.toArray⟩ p hs (by rw [hget]; exact hu)
  unfold sdec
  rw [this, hget]
theorem sdec_high {s : Str} {p : Nat} {u : UInt8} (h : s[p]? = some u) (hu : 128 ≤ u.toNat) : 128 ≤ (sdec s p).1 := by
  obtain ⟨h1, h2⟩ := List.getElem?_eq_some_iff.1 h
  have hs : p < (⟨s.toArray⟩ : ByteArray).size := by rw [str_size]; exact h1
  have hget : (⟨s.toArray⟩ : ByteArray)[p]'hs = u := by rw [← h2]; rfl
  have := (decode_high ⟨s.toArray⟩ p hs (by rw [hget]; exact hu)).1
  unfold sdec
  show (128 : Int) ≤ (((Utf8.decode ⟨s.toArray⟩ p).1 : Nat) : Int)
  omega
theorem fold_Trim_eq (s : Str) (hs : fits s) : fold_Trim s = some (Lib.trimB s 32) := by
  unfold fits at hs
  simp [fold_Trim, lib_Trim, chk, show s.length ≤ 9223372036854775807 by omega]
theorem fold_Clean_eq (s : Str) (hs : fits s) : fold_Clean s = some (clean s) := by
  have fin : Option.bind (if (!(s == ([] : Str))) && (decide ((s.length : Int) ≤ 256)) then (fold_Trim s).bind fun y33 => some (y33 == s) else some false) (fun z28 => some z28) =
      some ((decide (1 ≤ s.length) && decide (s.length ≤ 256)) && (!(s.head? == some 32) && !(s.getLast? == some 32))) := by
    rw [fold_Trim_eq s hs]
    rcases trimB_eq s with h | h
    · simp only [Option.bind_some, h]
      cases s with
      | nil => simp
      | cons a r =>
        have e1 : (!(a :: r == ([] : Str))) = true := rfl
        have e2 : decide ((((a :: r).length : Nat) : Int) ≤ 256) = decide ((a :: r).length ≤ 256) := by rw [decide_eq_decide]; omega
        have e3 : decide (1 ≤ (a :: r).length) = true := by simp
        rw [e1, e2, e3]
        cases decide ((a :: r).length ≤ 256) <;> simp
    · subst h; simp
  have key : ∀ (r : Str) (i n : Nat), s.drop i = r → i ≤ s.length → r.length < n →
      fold_Clean_L1 n s s i = some (r.all prt && ((decide (1 ≤ s.length) && decide (s.length ≤ 256)) && (!(s.head? == some 32) && !(s.getLast? == some 32)))) := by
    intro r
    induction r with
    | nil =>
      intro i n hd hi hn
      obtain ⟨n, rfl⟩ : ∃ k, n = k + 1 := ⟨n - 1, by simp at hn; omega⟩
      have := drop_nil hd
      simp only [fold_Clean_L1, show ¬ (i < s.length) by omega, decide_false, Bool.false_eq_true, if_false, List.all_nil, Bool.true_and]
      exact fin
    | cons u r ih =>
      intro i n hd hi hn
      obtain ⟨n, rfl⟩ : ∃ k, n = k + 1 := ⟨n - 1, by simp at hn; omega⟩
      obtain ⟨h1, h2, h3⟩ := drop_more hd
      have hlt := drop_lt hd
      have hih := ih (i + 1) n h3 (by omega) (by simp at hn; omega)
      simp only [fold_Clean_L1, hlt, decide_true, if_true, List.all_cons]
      by_cases hu : u.toNat < 128
      · rw [sdec_low h2 hu]
        cases hp : prt u with
        | true =>
          simp only [prt, Bool.and_eq_true, decide_eq_true_eq] at hp
          have e1 : ¬ ((u.toNat : Int) < 32) := by omega
          have e2 : ¬ ((u.toNat : Int) > 126) := by omega
          simp only [e1, e2, decide_false, Bool.or_self, Bool.false_eq_true, if_false, Bool.true_and]
          exact hih
        | false =>
          have : (u.toNat : Int) < 32 ∨ (u.toNat : Int) > 126 := by
            simp only [prt, Bool.and_eq_false_iff, decide_eq_false_iff_not] at hp
            omega
          have e : (decide ((u.toNat : Int) < 32) || decide ((u.toNat : Int) > 126)) = true := by simpa using this
          simp only [e, if_true, Bool.false_and]
      · have hh := sdec_high h2 (by omega)
        have e : decide ((sdec s i).1 > 126) = true := by simp; omega
        have hp : prt u = false := by simp [prt]; omega
        simp only [e, Bool.or_true, if_true, hp, Bool.false_and]
  have := key s 0 fuel rfl (by omega) (fuel_pos hs)
  rw [fold_Clean, this]
  simp [clean, Bool.and_assoc]
theorem ref01_Clean_eq (s : Str) (hs : fits s) : ref01_Clean s = some (clean s) := by
  have key : ∀ (r : Str) (i n : Nat), s.drop i = r → i ≤ s.length → r.length < n → ref01_Clean_L1 n s (i : Int) = some (r.all prt) := by
    unfold fits at hs
    intro r
    induction r with
    | nil =>
      intro i n hd hi hn
      obtain ⟨n, rfl⟩ : ∃ k, n = k + 1 := ⟨n - 1, by simp at hn; omega⟩
      have := drop_nil hd
      simp [ref01_Clean_L1, show ¬ ((i : Int) < s.length) by omega]
    | cons u r ih =>
      intro i n hd hi hn
      obtain ⟨n, rfl⟩ : ∃ k, n = k + 1 := ⟨n - 1, by simp at hn; omega⟩
      obtain ⟨h1, h2, h3⟩ := drop_more hd
      have hlt := drop_lt hd
      simp only [ref01_Clean_L1, show ((i : Int) < s.length) by omega, decide_true, if_true, inb_n, h1, chk_true, byteAt_some h2, w64n (show i < 9223372036854775807 by omega), List.all_cons, ih (i + 1) n h3 (by omega) (by simp at hn; omega)]
      cases hp : prt u with
      | true =>
        simp only [prt, Bool.and_eq_true, decide_eq_true_eq] at hp
        simp [show ¬ ((u.toNat : Int) < 32) by omega, show ¬ ((u.toNat : Int) > 126) by omega, show ¬ (126 < (u.toNat : Int)) by omega]
      | false =>
        simp only [prt, Bool.and_eq_false_iff, decide_eq_false_iff_not] at hp
        by_cases h32 : (u.toNat : Int) < 32
        · simp [h32]
        · simp [h32, show (126 < (u.toNat : Int)) by omega]
  unfold ref01_Clean clean
  cases s with
  | nil => simp
  | cons a r =>
    have h1 := key (a :: r) 0 fuel rfl (by omega) (fuel_pos hs)
    by_cases hl : (a :: r).length ≤ 256
    · have e1 : (decide ((((a :: r).length : Nat) : Int) < 1) || decide ((((a :: r).length : Nat) : Int) > 256)) = false := by simp at hl ⊢; omega
      have e2 : inb 0 ((((a :: r).length : Nat)) : Int) = true := by simp only [inb, List.length_cons, Bool.and_eq_true, decide_eq_true_eq]; omega
      have e3 : IntKind.i64.wrap ((((a :: r).length : Nat) : Int) - 1) = ((((a :: r).length - 1 : Nat)) : Int) := by
        have := hl
        simp only [List.length_cons] at this ⊢
        rw [w64 (by omega) (by omega)]; omega
      have e4 : byteAt (a :: r) 0 = (a.toNat : Int) := by simp [byteAt]
      obtain ⟨z, hz⟩ : ∃ z, (a :: r).getLast? = some z := ⟨(a :: r).getLast (by simp), List.getLast?_eq_some_getLast (by simp)⟩
      have e5 : byteAt (a :: r) (((a :: r).length - 1 : Nat) : Int) = (z.toNat : Int) := by
        have : (a :: r)[(a :: r).length - 1]? = some z := by rw [← List.getLast?_eq_getElem?]; exact hz
        exact byteAt_some this
      have e6 : inb ((((a :: r).length - 1 : Nat)) : Int) (((a :: r).length : Nat) : Int) = true := by simp only [inb, List.length_cons, Bool.and_eq_true, decide_eq_true_eq]; omega
      have h32 : ∀ u : UInt8, ((u.toNat : Int) == 32) = (u == 32) := fun u => by
        rw [Bool.eq_iff_iff, beq_iff_eq, beq_iff_eq]
        constructor
        · intro h; exact UInt8.toNat_inj.1 (by have : u.toNat = 32 := by omega
                                               simpa using this)
        · intro h; subst h; rfl
      simp only [e1, Bool.false_eq_true, if_false, e2, chk_true, e4, e3, e6, e5, Option.bind_some, h32, hz, List.head?_cons, show decide (1 ≤ (a :: r).length) = true by simp, hl, decide_true, Bool.true_and, Bool.and_true]
      have q1 : (some a == some (32 : UInt8)) = (a == 32) := rfl
      have q2 : (some z == some (32 : UInt8)) = (z == 32) := rfl
      rw [q1, q2]
      cases a == 32 with
      | true => simp
      | false =>
        cases z == 32 with
        | true => simp
        | false => simpa using h1
    · have e1 : (decide ((((a :: r).length : Nat) : Int) < 1) || decide ((((a :: r).length : Nat) : Int) > 256)) = true := by simp at hl ⊢; omega
      simp only [e1, if_true, Option.bind_some, hl, decide_false, Bool.and_false, Bool.false_and]
/-! ### decimals -/
theorem dec_small {m : Nat} (h : m < 10) : Lib.decDigits m = [UInt8.ofNat (48 + m)] := by rw [Lib.decDigits, dif_pos h]
theorem dec_big {m : Nat} (h : ¬ m < 10) : Lib.decDigits m = Lib.decDigits (m / 10) ++ [UInt8.ofNat (48 + m % 10)] := by rw [Lib.decDigits, dif_neg h]
theorem dec_len : ∀ (k m : Nat), m < 10 ^ k → 1 ≤ k → (Lib.decDigits m).length ≤ k
  | 0, _, _, h => by omega
  | k + 1, m, h, _ => by
    by_cases h10 : m < 10
    · rw [dec_small h10]; simp
    · rw [dec_big h10]
      have hk : 1 ≤ k := by
        cases k with
        | zero => simp at h; omega
        | succ k => omega
      have := dec_len k (m / 10) (by rw [Nat.div_lt_iff_lt_mul (by omega)]; rw [Nat.pow_succ] at h; exact h) hk
      simp; omega
/-- the digits, none of nought -/
def dd (m : Nat) : Str := if m = 0 then [] else Lib.decDigits m
theorem dd_step {m : Nat} (h : m ≠ 0) : dd m = dd (m / 10) ++ [UInt8.ofNat (48 + m % 10)] := by
  unfold dd
  rw [if_neg h]
  by_cases h10 : m < 10
  · rw [dec_small h10, if_pos (by omega), Nat.mod_eq_of_lt h10]; rfl
  · rw [dec_big h10, if_neg (by omega)]
theorem chr_all : ∀ d : Nat, d < 10 → bytesStr ([IntKind.u8.wrap (IntKind.i64.wrap (48 + (d : Int)))] : List Int) = [UInt8.ofNat (48 + d)] := by decide
theorem chr_eq {d : Nat} (h : d < 10) : bytesStr ([IntKind.u8.wrap (IntKind.i64.wrap (48 + (d : Int)))] : List Int) = [UInt8.ofNat (48 + d)] := chr_all d h
theorem tmod16 (a : Nat) : Int.tmod (a : Int) 16 = ((a % 16 : Nat) : Int) := by rw [Int.tmod_eq_emod_of_nonneg (by omega)]; omega
theorem tdiv16 (a : Nat) : (a : Int).tdiv 16 = ((a / 16 : Nat) : Int) := by rw [Int.tdiv_eq_ediv_of_nonneg (by omega)]; omega
theorem tmod10 (a : Nat) : Int.tmod (a : Int) 10 = ((a % 10 : Nat) : Int) := by rw [Int.tmod_eq_emod_of_nonneg (by omega)]; omega
theorem tdiv10 (a : Nat) : (a : Int).tdiv 10 = ((a / 10 : Nat) : Int) := by rw [Int.tdiv_eq_ediv_of_nonneg (by omega)]; omega
theorem ref02_loop : ∀ (k m n : Nat) (out : Str) (n0 : Int), 0 ≤ n0 → m < 10 ^ k → m < 9223372036854775808 → out.length + k ≤ 100 → k < n → ref02_Int_L1 n n0 out (m : Int) = some (dd m ++ out) := by
  intro k
  induction k with
  | zero =>
    intro m n out n0 h0 hm _ _ hn
    obtain ⟨n, rfl⟩ : ∃ k, n = k + 1 := ⟨n - 1, by omega⟩
    have : m = 0 := by simpa using hm
    subst this
    simp [ref02_Int_L1, dd, show ¬ n0 < 0 by omega]
  | succ k ih =>
    intro m n out n0 h0 hm h63 hl hn
    obtain ⟨n, rfl⟩ : ∃ k, n = k + 1 := ⟨n - 1, by omega⟩
    by_cases hz : m = 0
    · subst hz
      simp [ref02_Int_L1, dd, show ¬ n0 < 0 by omega]
    · have e1 : ((m : Int) != 0) = true := by simp; omega
      have e2 : Int.tmod (m : Int) 10 = ((m % 10 : Nat) : Int) := by rw [Int.tmod_eq_emod_of_nonneg (by omega)]; omega
      have e3 : (m : Int).tdiv 10 = ((m / 10 : Nat) : Int) := by rw [Int.tdiv_eq_ediv_of_nonneg (by omega)]; omega
      have e4 : ¬ (((m % 10 : Nat) : Int) < 0) := by omega
      have e5 : IntKind.i64.wrap ((m / 10 : Nat) : Int) = ((m / 10 : Nat) : Int) := w64 (by omega) (by omega)
      have h10 : m % 10 < 10 := Nat.mod_lt _ (by omega)
      have hf : fitS [UInt8.ofNat (48 + m % 10)] out = true := by simp [fitS]; omega
      have hd : m / 10 < 10 ^ k := by rw [Nat.div_lt_iff_lt_mul (by omega)]; rw [Nat.pow_succ] at hm; exact hm
      simp only [ref02_Int_L1, e1, if_true, e2, e4, decide_false, Bool.false_eq_true, if_false, ref02_Int_B2, chr_eq h10, hf, chk_true, e3, e5]
      rw [ih (m / 10) n _ n0 h0 hd (by omega) (by simp; omega) (by omega), dd_step hz]
      simp
theorem ref02_Int_eq (m : Nat) (h : m < 9223372036854775808) : ref02_Int (m : Int) = some (Lib.decDigits m) := by
  unfold ref02_Int
  by_cases hz : m = 0
  · subst hz; simp [dec_small]
  · have e1 : ((m : Int) == 0) = false := by simp; omega
    rw [e1]
    have := ref02_loop 20 m fuel [] (m : Int) (by omega) (by omega) h (by simp) (by unfold fuel; omega)
    simp only [Bool.false_eq_true, if_false, this, List.append_nil]
    unfold dd
    rw [if_neg hz]
theorem lib_Itoa_eq (m : Nat) (h : m < 9223372036854775808) : lib_Itoa (m : Int) = some (Lib.decDigits m) := by
  unfold lib_Itoa
  rw [chk_t (by simp; omega), itoaS_eq (by omega) (by omega)]
  unfold Lib.itoa
  rw [if_neg (by omega)]
  simp
theorem codec_Int_eq (m : Nat) (h : m < 9223372036854775808) : codec_Int (m : Int) = some (Lib.decDigits m) := by simp [codec_Int, lib_Itoa_eq m h]
theorem ten_cut : ∀ m : Nat, m < 10 → (([48, 49, 50, 51, 52, 53, 54, 55, 56, 57] : Str).drop m).take 1 = [UInt8.ofNat (48 + m)] := by decide
theorem ref03_decimal_eq : ∀ (k f m : Nat), 1 ≤ k → k ≤ f → m < 10 ^ k → m < 9223372036854775808 → ref03_decimal f (m : Int) = some (Lib.decDigits m) := by
  intro k
  induction k with
  | zero => intro f m h; omega
  | succ k ih =>
    intro f m _ hf hm h63
    obtain ⟨f, rfl⟩ : ∃ k, f = k + 1 := ⟨f - 1, by omega⟩
    by_cases h10 : m < 10
    · have e1 : IntKind.i64.wrap ((m : Int) + 1) = ((m + 1 : Nat) : Int) := w64n (by omega)
      have e2 : inc (m : Int) ((m + 1 : Nat) : Int) (([48, 49, 50, 51, 52, 53, 54, 55, 56, 57] : List Nat).length : Nat) = true := by rw [inc_n]; simp; omega
      simp only [ref03_decimal, show ((m : Int) < 10) by omega, decide_true, if_true, e1, e2, chk_true, cut_n, show m + 1 - m = 1 by omega, ten_cut m h10, dec_small h10]
    · have hk : 1 ≤ k := by
        cases k with
        | zero => simp at hm; omega
        | succ k => omega
      have hd : m / 10 < 10 ^ k := by rw [Nat.div_lt_iff_lt_mul (by omega)]; rw [Nat.pow_succ] at hm; exact hm
      have hmod : m % 10 < 10 ^ k := by
        have h1 : m % 10 < 10 := Nat.mod_lt _ (by omega)
        have h2 : 10 ^ 1 ≤ 10 ^ k := Nat.pow_le_pow_right (by omega) hk
        omega
      have e2 : Int.tmod (m : Int) 10 = ((m % 10 : Nat) : Int) := by rw [Int.tmod_eq_emod_of_nonneg (by omega)]; omega
      have e3 : (m : Int).tdiv 10 = ((m / 10 : Nat) : Int) := by rw [Int.tdiv_eq_ediv_of_nonneg (by omega)]; omega
      have e5 : IntKind.i64.wrap ((m / 10 : Nat) : Int) = ((m / 10 : Nat) : Int) := w64 (by omega) (by omega)
      have hl1 := dec_len 20 (m / 10) (by omega) (by omega)
      have hl2 := dec_len 20 (m % 10) (by omega) (by omega)
      have hf : fitS (Lib.decDigits (m / 10)) (Lib.decDigits (m % 10)) = true := by simp [fitS]; omega
      simp only [ref03_decimal, show ¬ ((m : Int) < 10) by omega, decide_false, Bool.false_eq_true, if_false, e3, e5, e2, ih f (m / 10) hk (by omega) hd (by omega), ih f (m % 10) hk (by omega) hmod (by omega), Option.bind_some, hf, chk_true]
      rw [dec_big h10, dec_small (show m % 10 < 10 from Nat.mod_lt _ (by omega))]

/-! ### digests -/
theorem wrap_u64_range (x : Int) : 0 ≤ IntKind.u64.wrap x ∧ IntKind.u64.wrap x < 18446744073709551616 := by
  simp [IntKind.wrap, IntKind.bits, IntKind.signed]; omega
theorem bXor_range (a b : Int) : 0 ≤ bXor .u64 a b ∧ bXor .u64 a b < 18446744073709551616 := wrap_u64_range _
theorem sum_loop (s : Str) (hs : fits s) : ∀ (r : Str) (i n : Nat) (h : Int), s.drop i = r → i ≤ s.length → r.length < n →
    digest_Sum_L1 n s h (s.length : Int) (i : Int) = ref03_Sum_L1 n s h (i : Int) ∧ ∃ v : Nat, v < 18446744073709551616 ∧ ref03_Sum_L1 n s h (i : Int) = some (v : Int) := by
  unfold fits at hs
  intro r
  induction r with
  | nil =>
    intro i n h hd hi hn
    obtain ⟨n, rfl⟩ : ∃ k, n = k + 1 := ⟨n - 1, by simp at hn; omega⟩
    have := drop_nil hd
    simp only [digest_Sum_L1, ref03_Sum_L1, show ¬ ((i : Int) < s.length) by omega, decide_false, Bool.false_eq_true, if_false, true_and]
    refine ⟨_, ?_, congrArg some (Int.toNat_of_nonneg (bXor_range _ _).1).symm⟩
    have h1 := (bXor_range (IntKind.u64.wrap ((bXor .u64 (IntKind.u64.wrap ((bXor .u64 h (bShr .u64 h 33)) * 18397679294719823053)) (bShr .u64 (IntKind.u64.wrap ((bXor .u64 h (bShr .u64 h 33)) * 18397679294719823053)) 33)) * 14181476777654086739)) (bShr .u64 (IntKind.u64.wrap ((bXor .u64 (IntKind.u64.wrap ((bXor .u64 h (bShr .u64 h 33)) * 18397679294719823053)) (bShr .u64 (IntKind.u64.wrap ((bXor .u64 h (bShr .u64 h 33)) * 18397679294719823053)) 33)) * 14181476777654086739)) 33))
    omega
  | cons u r ih =>
    intro i n h hd hi hn
    obtain ⟨n, rfl⟩ : ∃ k, n = k + 1 := ⟨n - 1, by simp at hn; omega⟩
    obtain ⟨h1, h2, h3⟩ := drop_more hd
    have hlt := drop_lt hd
    simp only [digest_Sum_L1, ref03_Sum_L1, show ((i : Int) < s.length) by omega, decide_true, if_true, inb_n, h1, chk_true, w64n (show i < 9223372036854775807 by omega)]
    exact ih (i + 1) n _ h3 (by omega) (by simp at hn; omega)
/-- the digest of a string -/
def sumS (s : Str) : Nat := ((ref03_Sum s).getD 0).toNat
theorem ref03_Sum_eq (s : Str) (hs : fits s) : ref03_Sum s = some (sumS s : Int) ∧ sumS s < 18446744073709551616 := by
  obtain ⟨_, v, hv, h⟩ := sum_loop s hs s 0 fuel 14695981039346656037 rfl (by omega) (fuel_pos hs)
  have : ref03_Sum s = some (v : Int) := h
  have e : sumS s = v := by simp [sumS, this]
  rw [e]; exact ⟨this, hv⟩
theorem digest_Sum_eq (s : Str) (hs : fits s) : digest_Sum s = some (sumS s : Int) := by
  obtain ⟨h1, _⟩ := sum_loop s hs s 0 fuel 14695981039346656037 rfl (by omega) (fuel_pos hs)
  have : digest_Sum s = ref03_Sum s := h1
  rw [this, (ref03_Sum_eq s hs).1]
/-- a hexadecimal digit -/
def hexd (m : Nat) : UInt8 := if m < 10 then UInt8.ofNat (48 + m) else UInt8.ofNat (87 + m)
def hexL : Nat → Nat → Str
  | 0, _ => []
  | t + 1, m => hexd (m / 16 ^ t % 16) :: hexL t m
def hexS (m : Nat) : Str := hexL 16 m
theorem hexL_len : ∀ t m, (hexL t m).length = t
  | 0, _ => rfl
  | t + 1, m => by simp [hexL, hexL_len t m]
theorem hex_tab : ∀ j : Nat, j < 16 → tab_digest_digits[j]? = some ((hexd j).toNat : Int) := by decide
theorem hex_cut : ∀ j : Nat, j < 16 → (([48, 49, 50, 51, 52, 53, 54, 55, 56, 57, 97, 98, 99, 100, 101, 102] : Str).drop j).take 1 = [hexd j] := by decide
theorem bAnd15 (x : Nat) (hx : x < 18446744073709551616) : bAnd .u64 (x : Int) 15 = ((x % 16 : Nat) : Int) := by
  unfold bAnd
  have e1 : (BitVec.ofInt 64 (x : Int)) = BitVec.ofNat 64 x := by simp
  have e2 : (BitVec.ofInt 64 (15 : Int)) = BitVec.ofNat 64 15 := rfl
  show IntKind.u64.wrap (((BitVec.ofInt 64 (x : Int) &&& BitVec.ofInt 64 15).toNat : Nat) : Int) = _
  rw [e1, e2, BitVec.toNat_and, BitVec.toNat_ofNat, BitVec.toNat_ofNat, Nat.mod_eq_of_lt hx]
  have e3 : x &&& (15 % 2 ^ 64) = x % 16 := Nat.and_two_pow_sub_one_eq_mod x 4
  rw [e3, wu64 (by omega) (by have := Nat.mod_lt x (show 16 > 0 by omega); omega)]
theorem bShr4 (x t : Nat) (ht : t < 16) : bShr .u64 (x : Int) ((4 * t : Nat) : Int) = ((x / 16 ^ t : Nat) : Int) := by
  unfold bShr
  have e1 : min (((4 * t : Nat) : Int).toNat) (IntKind.u64.bits) = 4 * t := by simp [IntKind.bits]; omega
  rw [e1, Int.fdiv_eq_ediv_of_nonneg _ (Int.le_of_lt (Int.pow_pos (by omega)))]
  rw [show (2 : Int) ^ (4 * t) = ((16 ^ t : Nat) : Int) by rw [Int.pow_mul]; simp]
  simp
theorem Hex_loop (m : Nat) (hm : m < 18446744073709551616) : ∀ (k t n : Nat), t + k = 16 → k < n →
    digest_Hex_L1 n (m : Int) (List.replicate (16 - t) 0 ++ (hexL t m).map fun u => (u.toNat : Int)) (t : Int) = some (hexS m) := by
  intro k
  induction k with
  | zero =>
    intro t n ht hn
    obtain ⟨n, rfl⟩ : ∃ k, n = k + 1 := ⟨n - 1, by omega⟩
    have : t = 16 := by omega
    subst this
    have hb : bytesStr ((hexL 16 m).map fun u => (u.toNat : Int)) = hexL 16 m := by
      unfold bytesStr
      rw [List.map_map]
      exact List.map_id'' (fun u => by simp) _
    simp [digest_Hex_L1, hexL_len, chk, hb, hexS]
  | succ k ih =>
    intro t n ht hn
    obtain ⟨n, rfl⟩ : ∃ k, n = k + 1 := ⟨n - 1, by omega⟩
    have hx : m / 16 ^ t < 18446744073709551616 := Nat.lt_of_le_of_lt (Nat.div_le_self _ _) hm
    have e1 : IntKind.i64.wrap (4 * (t : Int)) = ((4 * t : Nat) : Int) := by rw [w64 (by omega) (by omega)]; omega
    have e2 : bAnd .u64 (bShr .u64 (m : Int) ((4 * t : Nat) : Int)) 15 = ((m / 16 ^ t % 16 : Nat) : Int) := by rw [bShr4 m t (by omega), bAnd15 _ hx]
    have h16 : m / 16 ^ t % 16 < 16 := Nat.mod_lt _ (by omega)
    have e3 : IntKind.i64.wrap (15 - (t : Int)) = ((15 - t : Nat) : Int) := by rw [w64 (by omega) (by omega)]; omega
    have hlen : (List.replicate (16 - t) (0 : Int) ++ (hexL t m).map fun u => (u.toNat : Int)).length = 16 := by simp [hexL_len]; omega
    have e4 : setAt (List.replicate (16 - t) (0 : Int) ++ (hexL t m).map fun u => (u.toNat : Int)) ((15 - t : Nat) : Int) ((hexd (m / 16 ^ t % 16)).toNat : Int) =
        List.replicate (16 - (t + 1)) (0 : Int) ++ (hexL (t + 1) m).map fun u => (u.toNat : Int) := by
      unfold setAt
      rw [Int.toNat_natCast, show 16 - t = (15 - t) + 1 by omega, List.replicate_succ', List.append_assoc, List.set_append_right _ _ (by simp)]
      simp [hexL, show 16 - (t + 1) = 15 - t by omega]
    have e5 : inb ((m / 16 ^ t % 16 : Nat) : Int) 16 = true := by rw [inb_iff]; omega
    have e6 : inb ((15 - t : Nat) : Int) 16 = true := by rw [inb_iff]; omega
    have e7 : inb ((15 - t : Nat) : Int) ((List.replicate (16 - t) (0 : Int) ++ (hexL t m).map fun u => (u.toNat : Int)).length : Nat) = true := by rw [hlen, inb_iff]; omega
    simp only [digest_Hex_L1, show ((t : Int) < 16) by omega, decide_true, if_true, e1, show (0 : Int) ≤ ((4 * t : Nat) : Int) by omega, chk_true, e2, e5, idx_n, hex_tab _ h16, Option.bind_some, e3, e6, e7, e4, w64n (show t < 9223372036854775807 by omega)]
    exact ih (t + 1) n (by omega) (by omega)
theorem digest_Hex_eq (m : Nat) (hm : m < 18446744073709551616) : digest_Hex (m : Int) = some (hexS m) := Hex_loop m hm 16 0 fuel rfl (by unfold fuel; omega)
theorem hexL_div : ∀ (t a m : Nat), hexL t (m / 16 ^ a) ++ hexL a m = hexL (t + a) m
  | 0, a, m => by simp [hexL]
  | t + 1, a, m => by
    have := hexL_div t a m
    rw [show t + 1 + a = (t + a) + 1 by omega]
    simp only [hexL, List.cons_append, this, Nat.div_div_eq_div_mul, ← Nat.pow_add]
    rw [Nat.add_comm a t]
theorem refHex_loop (m : Nat) (hm : m < 18446744073709551616) : ∀ (k t n : Nat), t + k = 16 → k < n → ref03_Hex_L1 n ((m / 16 ^ t : Nat) : Int) (hexL t m) (t : Int) = some (hexS m) := by
  intro k
  induction k with
  | zero =>
    intro t n ht hn
    obtain ⟨n, rfl⟩ : ∃ k, n = k + 1 := ⟨n - 1, by omega⟩
    have : t = 16 := by omega
    subst this
    simp [ref03_Hex_L1, hexS]
  | succ k ih =>
    intro t n ht hn
    obtain ⟨n, rfl⟩ : ∃ k, n = k + 1 := ⟨n - 1, by omega⟩
    have hx : m / 16 ^ t < 18446744073709551616 := Nat.lt_of_le_of_lt (Nat.div_le_self _ _) hm
    have h16 : m / 16 ^ t % 16 < 16 := Nat.mod_lt _ (by omega)
    have e1 : Int.tmod ((m / 16 ^ t : Nat) : Int) 16 = ((m / 16 ^ t % 16 : Nat) : Int) := tmod16 _
    have e2 : IntKind.u64.wrap (((m / 16 ^ t % 16 : Nat) : Int) + 1) = ((m / 16 ^ t % 16 + 1 : Nat) : Int) := by rw [wu64 (by omega) (by omega)]; omega
    have e3 : IntKind.u64.wrap (((m / 16 ^ t : Nat) : Int).tdiv 16) = ((m / 16 ^ (t + 1) : Nat) : Int) := by
      rw [tdiv16, wu64 (Int.natCast_nonneg _) (by have h := Nat.div_le_self (m / 16 ^ t) 16; generalize m / 16 ^ t / 16 = q at *; generalize m / 16 ^ t = p at *; omega), Nat.div_div_eq_div_mul, ← Nat.pow_succ]
    have e4 : inc ((m / 16 ^ t % 16 : Nat) : Int) ((m / 16 ^ t % 16 + 1 : Nat) : Int) (([48, 49, 50, 51, 52, 53, 54, 55, 56, 57, 97, 98, 99, 100, 101, 102] : List Nat).length : Nat) = true := by rw [inc_n]; simp; omega
    have e5 : fitS [hexd (m / 16 ^ t % 16)] (hexL t m) = true := by simp [fitS, hexL_len]; omega
    simp only [ref03_Hex_L1, show ((t : Int) < 16) by omega, decide_true, if_true, e1, e2, e4, chk_true, cut_n, Nat.add_sub_cancel_left, hex_cut _ h16, e5, e3, w64n (show t < 9223372036854775807 by omega)]
    exact ih (t + 1) n (by omega) (by omega)
theorem ref03_Hex_eq (m : Nat) (hm : m < 18446744073709551616) : ref03_Hex (m : Int) = some (hexS m) := by
  have := refHex_loop m hm 16 0 fuel rfl (by unfold fuel; omega)
  simpa [ref03_Hex, hexL] using this
/-- the hexadecimal digest -/
def textS (s : Str) : Str := hexS (sumS s)
theorem textS_len (s : Str) : (textS s).length = 16 := hexL_len _ _
theorem digest_Text_eq (s : Str) (hs : fits s) : digest_Text s = some (textS s) := by
  simp [digest_Text, digest_Sum_eq s hs, digest_Hex_eq _ (ref03_Sum_eq s hs).2, textS]
theorem ref03_Text_eq (s : Str) (hs : fits s) : ref03_Text s = some (textS s) := by
  simp [ref03_Text, (ref03_Sum_eq s hs).1, ref03_Hex_eq _ (ref03_Sum_eq s hs).2, textS]
/-- the authentication code -/
def macS (key s : Str) : Str := textS (Lib.decDigits key.length ++ [58] ++ key ++ textS (Lib.decDigits key.length ++ [58] ++ key ++ s))
theorem macS_len (key s : Str) : (macS key s).length = 16 := textS_len _
/-- short enough that sums of them are in range -/
def mid (s : Str) : Prop := s.length ≤ 1099511627776
theorem mac_fits (key s : Str) (hk : mid key) (hs : mid s) : (Lib.decDigits key.length).length ≤ 20 := by unfold mid at hk; exact dec_len 20 _ (by omega) (by omega)
theorem digest_Mac_eq (key s : Str) (hk : mid key) (hs : mid s) : digest_Mac key s = some (macS key s) := by
  have h1 := mac_fits key s hk hs
  unfold mid at hk hs
  have f1 : fitS (Lib.decDigits key.length) [58] = true := by simp [fitS]; omega
  have f2 : fitS (Lib.decDigits key.length ++ [58]) key = true := by simp [fitS]; omega
  have f3 : fitS (Lib.decDigits key.length ++ [58] ++ key) s = true := by simp [fitS]; omega
  have f4 : fitS (Lib.decDigits key.length ++ [58] ++ key) (textS (Lib.decDigits key.length ++ [58] ++ key ++ s)) = true := by simp [fitS, textS_len]; omega
  unfold digest_Mac
  simp only [lib_Itoa_eq key.length (by omega), Option.bind_some, f1, f2, f3, chk_true, digest_Text_eq (Lib.decDigits key.length ++ [58] ++ key ++ s) (by unfold fits; simp; omega), f4,
    digest_Text_eq (Lib.decDigits key.length ++ [58] ++ key ++ textS (Lib.decDigits key.length ++ [58] ++ key ++ s)) (by unfold fits; simp [textS_len]; omega), macS]
theorem ref03_Mac_eq (key s : Str) (hk : mid key) (hs : mid s) : ref03_Mac key s = some (macS key s) := by
  have h1 := mac_fits key s hk hs
  unfold mid at hk hs
  have f1 : fitS (Lib.decDigits key.length) [58] = true := by simp [fitS]; omega
  have f2 : fitS (Lib.decDigits key.length ++ [58]) key = true := by simp [fitS]; omega
  have f3 : fitS (Lib.decDigits key.length ++ [58] ++ key) s = true := by simp [fitS]; omega
  have f4 : fitS (Lib.decDigits key.length ++ [58] ++ key) (textS (Lib.decDigits key.length ++ [58] ++ key ++ s)) = true := by simp [fitS, textS_len]; omega
  unfold ref03_Mac
  simp only [ref03_decimal_eq 20 fuel key.length (by omega) (by unfold fuel; omega) (by omega) (by omega), Option.bind_some, f1, f2, f3, chk_true, ref03_Text_eq (Lib.decDigits key.length ++ [58] ++ key ++ s) (by unfold fits; simp; omega), f4,
    ref03_Text_eq (Lib.decDigits key.length ++ [58] ++ key ++ textS (Lib.decDigits key.length ++ [58] ++ key ++ s)) (by unfold fits; simp [textS_len]; omega), macS]
/-! ### codes -/
def sixL : Nat → Nat → Str
  | 0, _ => []
  | k + 1, m => sixL k (m / 10) ++ [UInt8.ofNat (48 + m % 10)]
def sixS (m : Nat) : Str := sixL 6 m
theorem sixL_len : ∀ k m, (sixL k m).length = k
  | 0, _ => rfl
  | k + 1, m => by simp [sixL, sixL_len k]
theorem sixL_pad : ∀ (k m : Nat), m < 10 ^ k → 1 ≤ k → sixL k m = List.replicate (k - (Lib.decDigits m).length) 48 ++ Lib.decDigits m
  | 0, _, _, h => by omega
  | k + 1, m, h, _ => by
    have hd : m / 10 < 10 ^ k := by rw [Nat.div_lt_iff_lt_mul (by omega)]; rw [Nat.pow_succ] at h; exact h
    by_cases h10 : m < 10
    · rw [dec_small h10]
      have hz : ∀ k, sixL k 0 = List.replicate k 48 := by
        intro k
        induction k with
        | zero => rfl
        | succ k ih => rw [sixL, List.replicate_succ', show 0 / 10 = 0 from rfl, ih]; rfl
      rw [sixL, show m / 10 = 0 by omega, hz, Nat.mod_eq_of_lt h10]
      simp
    · have hk : 1 ≤ k := by
        cases k with
        | zero => simp at h; omega
        | succ k => omega
      have hl := dec_len k (m / 10) hd hk
      rw [sixL, sixL_pad k (m / 10) hd hk, dec_big h10]
      simp [show k + 1 - ((Lib.decDigits (m / 10)).length + 1) = k - (Lib.decDigits (m / 10)).length by omega]
theorem dig_u8 : ∀ d : Nat, d < 10 → IntKind.u8.wrap (IntKind.u64.wrap (48 + (d : Int))) = ((UInt8.ofNat (48 + d)).toNat : Int) := by decide
theorem sixL_split : ∀ (t a m : Nat), sixL (t + a) m = sixL t (m / 10 ^ a) ++ sixL a m
  | t, 0, m => by simp [sixL]
  | t, a + 1, m => by
    rw [show t + (a + 1) = (t + a) + 1 by omega, sixL, sixL_split t a (m / 10), sixL, Nat.div_div_eq_div_mul]
    rw [show 10 * 10 ^ a = 10 ^ (a + 1) by rw [Nat.pow_succ, Nat.mul_comm]]
    simp
theorem code_loop (m : Nat) (hm : m < 1000000) : ∀ (k t n : Nat), t + k = 6 → k < n →
    otp_code_L1 n ((m / 10 ^ t : Nat) : Int) (List.replicate (6 - t) 0 ++ (sixL t m).map fun u => (u.toNat : Int)) (t : Int) = some (sixS m) := by
  intro k
  induction k with
  | zero =>
    intro t n ht hn
    obtain ⟨n, rfl⟩ : ∃ k, n = k + 1 := ⟨n - 1, by omega⟩
    have : t = 6 := by omega
    subst this
    have hb : bytesStr ((sixL 6 m).map fun u => (u.toNat : Int)) = sixL 6 m := by
      unfold bytesStr
      rw [List.map_map]
      exact List.map_id'' (fun u => by simp) _
    simp [otp_code_L1, sixL_len, chk, hb, sixS]
  | succ k ih =>
    intro t n ht hn
    obtain ⟨n, rfl⟩ : ∃ k, n = k + 1 := ⟨n - 1, by omega⟩
    have h10 : m / 10 ^ t % 10 < 10 := Nat.mod_lt _ (by omega)
    have e3 : IntKind.i64.wrap (5 - (t : Int)) = ((5 - t : Nat) : Int) := by rw [w64 (by omega) (by omega)]; omega
    have hlen : (List.replicate (6 - t) (0 : Int) ++ (sixL t m).map fun u => (u.toNat : Int)).length = 6 := by simp [sixL_len]; omega
    have hs : sixL (t + 1) m = UInt8.ofNat (48 + m / 10 ^ t % 10) :: sixL t m := by
      rw [Nat.add_comm t 1, sixL_split 1 t m]; simp [sixL]
    have e4 : setAt (List.replicate (6 - t) (0 : Int) ++ (sixL t m).map fun u => (u.toNat : Int)) ((5 - t : Nat) : Int) ((UInt8.ofNat (48 + m / 10 ^ t % 10)).toNat : Int) =
        List.replicate (6 - (t + 1)) (0 : Int) ++ (sixL (t + 1) m).map fun u => (u.toNat : Int) := by
      unfold setAt
      rw [Int.toNat_natCast, show 6 - t = (5 - t) + 1 by omega, List.replicate_succ', List.append_assoc, List.set_append_right _ _ (by simp), hs]
      simp [show 6 - (t + 1) = 5 - t by omega]
    have e5 : IntKind.u64.wrap (((m / 10 ^ t : Nat) : Int).tdiv 10) = ((m / 10 ^ (t + 1) : Nat) : Int) := by
      have h1 := Nat.div_le_self m (10 ^ t)
      rw [tdiv10, wu64 (Int.natCast_nonneg _) (by have h := Nat.div_le_self (m / 10 ^ t) 10; generalize m / 10 ^ t / 10 = q at *; generalize m / 10 ^ t = p at *; omega), Nat.div_div_eq_div_mul, ← Nat.pow_succ]
    have e6 : inb ((5 - t : Nat) : Int) 6 = true := by rw [inb_iff]; omega
    have e7 : inb ((5 - t : Nat) : Int) ((List.replicate (6 - t) (0 : Int) ++ (sixL t m).map fun u => (u.toNat : Int)).length : Nat) = true := by rw [hlen, inb_iff]; omega
    simp only [otp_code_L1, show ((t : Int) < 6) by omega, decide_true, if_true, e3, e6, e7, chk_true, e5, tmod10, dig_u8 _ h10, e4, w64n (show t < 9223372036854775807 by omega)]
    exact ih (t + 1) n (by omega) (by omega)
/-- the code of a counter -/
def codeS (secret : Str) (c : Int) : Str := sixS (sumS (macS secret (Lib.decDigits c.toNat)) % 1000000)
theorem codeS_len (s : Str) (c : Int) : (codeS s c).length = 6 := sixL_len _ _
theorem dec_mid {c : Int} (h0 : 0 ≤ c) (h1 : c ≤ 36650387592) : mid (Lib.decDigits c.toNat) ∧ codec_Int c = some (Lib.decDigits c.toNat) ∧ ref02_Int c = some (Lib.decDigits c.toNat) := by
  obtain ⟨m, rfl⟩ : ∃ m : Nat, c = m := ⟨c.toNat, by omega⟩
  have := dec_len 20 m (by omega) (by omega)
  exact ⟨by unfold mid; simp; omega, codec_Int_eq m (by omega), ref02_Int_eq m (by omega)⟩
theorem mac_fit (k s : Str) : fits (macS k s) := by unfold fits; rw [macS_len]; omega
theorem tmodM (a : Nat) : Int.tmod (a : Int) 1000000 = ((a % 1000000 : Nat) : Int) := by rw [Int.tmod_eq_emod_of_nonneg (by omega)]; omega
theorem otp_code_eq (secret : Str) (c : Int) (hs : mid secret) (h0 : 0 ≤ c) (h1 : c ≤ 36650387592) : otp_code secret c = some (codeS secret c) := by
  obtain ⟨hm, e1, _⟩ := dec_mid h0 h1
  have := code_loop (sumS (macS secret (Lib.decDigits c.toNat)) % 1000000) (Nat.mod_lt _ (by omega)) 6 0 fuel rfl (by unfold fuel; omega)
  simp only [otp_code, e1, Option.bind_some, digest_Mac_eq secret _ hs hm, digest_Sum_eq _ (mac_fit _ _), tmodM]
  simpa [sixL, codeS] using this
theorem six_pad : ∀ (k n : Nat) (s : Str), s.length + k = 6 → k < n → ref23_six_L1 n s = some (List.replicate k 48 ++ s) := by
  intro k
  induction k with
  | zero =>
    intro n s hl hn
    obtain ⟨n, rfl⟩ : ∃ k, n = k + 1 := ⟨n - 1, by omega⟩
    simp [ref23_six_L1, show ¬ ((s.length : Int) < 6) by omega]
  | succ k ih =>
    intro n s hl hn
    obtain ⟨n, rfl⟩ : ∃ k, n = k + 1 := ⟨n - 1, by omega⟩
    have hf : fitS [48] s = true := by simp [fitS]; omega
    simp only [ref23_six_L1, show ((s.length : Int) < 6) by omega, decide_true, if_true, hf, chk_true]
    rw [ih n ([48] ++ s) (by simp; omega) (by omega), List.replicate_succ']
    simp
theorem ref23_six_eq (m : Nat) (hm : m < 1000000) : ref23_six (m : Int) = some (sixS m) := by
  have hl := dec_len 6 m (by omega) (by omega)
  rw [ref23_six, ref02_Int_eq m (by omega), Option.bind_some, six_pad (6 - (Lib.decDigits m).length) fuel _ (by omega) (by unfold fuel; omega), sixS, sixL_pad 6 m (by omega) (by omega)]
/-- what Code returns -/
def codeR (secret : Str) (c : Int) : Str × Int := if clean secret then (if decide (c < 0) || decide (c > 36650387592) then ([], 27) else (codeS secret c, 0)) else ([], 4)
theorem clean_mid {s : Str} (h : clean s = true) : mid s ∧ s.length ≤ 256 := by
  simp only [clean, Bool.and_eq_true, decide_eq_true_eq] at h
  exact ⟨by unfold mid; omega, h.1.2.2⟩
theorem otp_Code_eq (secret : Str) (c : Int) (hs : fits secret) : otp_Code secret c = some (codeR secret c) := by
  rw [otp_Code, fold_Clean_eq secret hs, codeR, Option.bind_some]
  cases hc : clean secret with
  | false => simp
  | true =>
    simp only [Bool.not_true, Bool.false_eq_true, if_false, if_true]
    by_cases hr : (decide (c < 0) || decide (c > 36650387592)) = true
    · rw [if_pos hr, if_pos hr]
    · have hr' := hr
      simp at hr'
      rw [if_neg hr, if_neg hr, otp_code_eq secret c (clean_mid hc).1 (by omega) (by omega)]; rfl
theorem ref23_Code_eq (secret : Str) (c : Int) (hs : fits secret) : ref23_Code secret c = some (codeR secret c) := by
  rw [ref23_Code, ref01_Clean_eq secret hs, codeR, Option.bind_some]
  cases hc : clean secret with
  | false => simp
  | true =>
    simp only [Bool.not_true, Bool.false_eq_true, if_false, if_true]
    by_cases hr : (decide (c < 0) || decide (c > 36650387592)) = true
    · rw [if_pos hr, if_pos hr]
    · have hr' := hr
      simp at hr'
      obtain ⟨hm, _, e1⟩ := dec_mid (c := c) (by omega) (by omega)
      have hlt : sumS (macS secret (Lib.decDigits c.toNat)) % 1000000 < 1000000 := Nat.mod_lt _ (by omega)
      rw [if_neg hr, if_neg hr, e1, Option.bind_some, ref03_Mac_eq secret _ (clean_mid hc).1 hm, Option.bind_some, (ref03_Sum_eq _ (mac_fit _ _)).1, Option.bind_some, tmodM, w64 (by omega) (by omega), ref23_six_eq _ hlt]
      rfl
/-- the instant's counter -/
def lim (t : Int) : Int := gmin (gmax t 0) 1099511627776
theorem lim_range (t : Int) : 0 ≤ lim t ∧ lim t ≤ 1099511627776 := by unfold lim gmin gmax; split <;> split <;> omega
theorem lim_eq (t : Int) : gmax 0 (gmin t 1099511627776) = lim t := by unfold lim gmin gmax; repeat' split <;> omega
theorem lim_val (t : Int) : lim t = if t < 0 then 0 else if t > 1099511627776 then 1099511627776 else t := by unfold lim gmin gmax; repeat' split <;> omega
def ctr (now : Int) : Int := lim now / 30
theorem ctr_range (t : Int) : 0 ≤ ctr t ∧ ctr t ≤ 36650387592 := by have := lim_range t; unfold ctr; omega
theorem clock_Add_eq (a b : Int) : clock_Add a b = some (lim (lim a + lim b)) := by
  have h1 := lim_range a; have h2 := lim_range b
  simp only [clock_Add, clock_limited, Option.bind_some]
  show some (gmin (gmax (IntKind.i64.wrap (lim a + lim b)) 0) 1099511627776) = _
  rw [w64 (by omega) (by omega)]; rfl
theorem lim_lim (a : Int) : lim (lim a) = lim a := by have := lim_range a; rw [lim_val (lim a)]; split <;> (try split) <;> omega
theorem lim_0 : lim 0 = 0 := rfl
theorem clock_Add0_eq (a : Int) : clock_Add a 0 = some (lim a) := by rw [clock_Add_eq, lim_0, Int.add_zero, lim_lim]
theorem otp_Counter_eq (t : Int) : otp_Counter t = some (ctr t) := by
  have h := lim_range t
  rw [otp_Counter, clock_Add0_eq, Option.bind_some, Int.tdiv_eq_ediv_of_nonneg h.1, w64 (by omega) (by omega)]; rfl
theorem ref23_Counter_eq (t : Int) : ref23_Counter t = some (ctr t) := by
  have h := lim_range t
  rw [ref23_Counter, ref04_Limit, Option.bind_some, lim_eq, Int.tdiv_eq_ediv_of_nonneg h.1, w64 (by omega) (by omega)]; rfl
/-- six digits -/
def dig (u : UInt8) : Bool := decide (48 ≤ u.toNat) && decide (u.toNat ≤ 57)
def sixd (s : Str) : Bool := s.all dig && decide (s.length = 6)
theorem ref23_possible_eq (s : Str) (hs : fits s) : ref23_possible s = some (sixd s) := by
  have key : ∀ (r : Str) (i n : Nat), s.drop i = r → i ≤ s.length → r.length < n → ref23_possible_L1 n s (i : Int) = some (r.all dig && decide (s.length = 6)) := by
    unfold fits at hs
    intro r
    induction r with
    | nil =>
      intro i n hd hi hn
      obtain ⟨n, rfl⟩ : ∃ k, n = k + 1 := ⟨n - 1, by simp at hn; omega⟩
      have := drop_nil hd
      simp only [ref23_possible_L1, show ¬ ((i : Int) < s.length) by omega, decide_false, Bool.false_eq_true, if_false, List.all_nil, Bool.true_and, Option.some.injEq]
      rw [Bool.eq_iff_iff]; simp; omega
    | cons u r ih =>
      intro i n hd hi hn
      obtain ⟨n, rfl⟩ : ∃ k, n = k + 1 := ⟨n - 1, by simp at hn; omega⟩
      obtain ⟨h1, h2, h3⟩ := drop_more hd
      have hlt := drop_lt hd
      simp only [ref23_possible_L1, show ((i : Int) < s.length) by omega, decide_true, if_true, inb_n, h1, chk_true, byteAt_some h2, w64n (show i < 9223372036854775807 by omega), List.all_cons, ih (i + 1) n h3 (by omega) (by simp at hn; omega)]
      cases hp : dig u with
      | true =>
        simp only [dig, Bool.and_eq_true, decide_eq_true_eq] at hp
        simp [show ¬ ((u.toNat : Int) < 48) by omega, show ¬ (57 < (u.toNat : Int)) by omega]
      | false =>
        simp only [dig, Bool.and_eq_false_iff, decide_eq_false_iff_not] at hp
        by_cases h48 : (u.toNat : Int) < 48
        · simp [h48]
        · simp [h48, show (57 < (u.toNat : Int)) by omega]
  exact key s 0 fuel rfl (by omega) (fuel_pos hs)
theorem otp_six_eq (s : Str) (hs : fits s) : otp_six s = some (sixd s) := by
  have key : ∀ (r : Str) (i n : Nat), s.drop i = r → i ≤ s.length → r.length < n →
      ∃ q : Int, slices_IndexFunc_byte_byte__six_1_L1 n (strBytes s) ((strBytes s).length : Int) (i : Int) = some q ∧ decide (q ≥ 0) = !(r.all dig) := by
    unfold fits at hs
    have hsl : (strBytes s).length = s.length := by simp [strBytes]
    intro r
    induction r with
    | nil =>
      intro i n hd hi hn
      obtain ⟨n, rfl⟩ : ∃ k, n = k + 1 := ⟨n - 1, by simp at hn; omega⟩
      have := drop_nil hd
      refine ⟨-1, ?_, by simp⟩
      simp only [slices_IndexFunc_byte_byte__six_1_L1, hsl, show ¬ ((i : Int) < s.length) by omega, decide_false, Bool.false_eq_true, if_false]
    | cons u r ih =>
      intro i n hd hi hn
      obtain ⟨n, rfl⟩ : ∃ k, n = k + 1 := ⟨n - 1, by simp at hn; omega⟩
      obtain ⟨h1, h2, h3⟩ := drop_more hd
      have hlt := drop_lt hd
      have hb : (strBytes s)[i]? = some (u.toNat : Int) := by simp [strBytes, h2]
      obtain ⟨q, hq, hq2⟩ := ih (i + 1) n h3 (by omega) (by simp at hn; omega)
      cases hp : dig u with
      | true =>
        simp only [dig, Bool.and_eq_true, decide_eq_true_eq] at hp
        refine ⟨q, ?_, by simpa [dig, hp] using hq2⟩
        simp only [slices_IndexFunc_byte_byte__six_1_L1, hsl, show ((i : Int) < s.length) by omega, decide_true, if_true, idx_n, hb, Option.bind_some, otp_six_1, show ¬ ((u.toNat : Int) < 48) by omega, show ¬ ((u.toNat : Int) > 57) by omega, decide_false, Bool.or_self, Bool.false_eq_true, if_false, w64n (show i < 9223372036854775807 by omega)]
        rw [hsl] at hq
        exact hq
      | false =>
        have hp' := hp
        simp only [dig, Bool.and_eq_false_iff, decide_eq_false_iff_not] at hp'
        have e : (decide ((u.toNat : Int) < 48) || decide ((u.toNat : Int) > 57)) = true := by simp; omega
        refine ⟨(i : Int), ?_, by simp [hp]⟩
        simp only [slices_IndexFunc_byte_byte__six_1_L1, hsl, show ((i : Int) < s.length) by omega, decide_true, if_true, idx_n, hb, Option.bind_some, otp_six_1, e]
  obtain ⟨q, hq, hq2⟩ := key s 0 fuel rfl (by omega) (fuel_pos hs)
  unfold otp_six sixd
  by_cases hl : s.length = 6
  · have e1 : ((s.length : Int) == 6) = true := by simp [hl]
    have hf : fitS s [] = true := by simp [fitS]; omega
    have : slices_IndexFunc_byte_byte__six_1 (strBytes s) = some q := hq
    rw [show decide (s.length = 6) = true from decide_eq_true hl, Bool.and_true]
    simp only [e1, if_true, hf, chk_true, slices_ContainsFunc_byte_byte__six_1, this, Option.bind_some, hq2, Bool.not_not]
  · have e1 : ((s.length : Int) == 6) = false := by simp; omega
    simp [e1, hl]
theorem otp_form_eq (secret s : Str) (h1 : fits secret) (h2 : fits s) : otp_form secret s = some (if clean secret && sixd s then 0 else 4) := by
  rw [otp_form, fold_Clean_eq secret h1, otp_six_eq s h2]
  cases clean secret <;> cases sixd s <;> simp
/-! ### search -/
def srch (secret s : Str) : Nat → Int → Option Int
  | 0, _ => none
  | k + 1, c => if codeS secret c == s then some c else srch secret s k (c + 1)
def pairO : Option Int → Int × Int
  | some c => (c, 0)
  | none => (0, 11)
theorem srch_some {secret s : Str} : ∀ {k : Nat} {c d : Int}, srch secret s k c = some d → c ≤ d ∧ d < c + k ∧ codeS secret d = s ∧ ∀ e, c ≤ e → e < d → codeS secret e ≠ s
  | 0, _, _, h => by cases h
  | k + 1, c, d, h => by
    unfold srch at h
    by_cases hc : (codeS secret c == s) = true
    · rw [if_pos hc] at h
      cases h
      exact ⟨Int.le_refl _, by omega, by simpa using hc, fun e h1 h2 => by omega⟩
    · rw [if_neg hc] at h
      obtain ⟨h1, h2, h3, h4⟩ := srch_some h
      refine ⟨by omega, by omega, h3, fun e he1 he2 => ?_⟩
      by_cases hec : e = c
      · subst hec; simpa using hc
      · exact h4 e (by omega) he2
theorem srch_none {secret s : Str} : ∀ {k : Nat} {c : Int}, srch secret s k c = none → ∀ e, c ≤ e → e < c + k → codeS secret e ≠ s
  | 0, _, _, e, h1, h2 => by omega
  | k + 1, c, h, e, h1, h2 => by
    unfold srch at h
    by_cases hc : (codeS secret c == s) = true
    · rw [if_pos hc] at h; cases h
    · rw [if_neg hc] at h
      by_cases hec : e = c
      · subst hec; simpa using hc
      · exact srch_none h e (by omega) (by omega)
theorem srch_of {secret s : Str} {k : Nat} {c d : Int} (h1 : c ≤ d) (h2 : d < c + k) (h3 : codeS secret d = s) (h4 : ∀ e, c ≤ e → e < d → codeS secret e ≠ s) : srch secret s k c = some d := by
  cases h : srch secret s k c with
  | none => exact absurd h3 (srch_none h d h1 h2)
  | some x =>
    obtain ⟨g1, g2, g3, g4⟩ := srch_some h
    rcases Int.lt_trichotomy x d with hx | hx | hx
    · exact absurd g3 (h4 x g1 hx)
    · rw [hx]
    · exact absurd h3 (g4 d h1 hx)
theorem search_loop (secret s : Str) (to_ : Int) (hm : mid secret) : ∀ (k n : Nat) (c : Int), 0 ≤ c → c ≤ 36650387593 → (gmin to_ 36650387592 + 1 - c).toNat = k → k < n →
    otp_search__Verify_1_L1 n to_ secret s c = some (pairO (srch secret s k c)) ∧ otp_search__VerifyAt_1_L1 n to_ secret s c = some (pairO (srch secret s k c)) := by
  have hg : gmin to_ 36650387592 ≤ 36650387592 := by unfold gmin; split <;> omega
  intro k
  induction k with
  | zero =>
    intro n c h0 h1 hk hn
    obtain ⟨n, rfl⟩ : ∃ k, n = k + 1 := ⟨n - 1, by omega⟩
    simp [otp_search__Verify_1_L1, otp_search__VerifyAt_1_L1, show ¬ (c ≤ gmin to_ 36650387592) by omega, srch, pairO]
  | succ k ih =>
    intro n c h0 h1 hk hn
    obtain ⟨n, rfl⟩ : ∃ k, n = k + 1 := ⟨n - 1, by omega⟩
    have hc : c ≤ gmin to_ 36650387592 := by omega
    have ih' := ih n (c + 1) (by omega) (by omega) (by omega) (by omega)
    simp only [otp_search__Verify_1_L1, otp_search__VerifyAt_1_L1, hc, decide_true, if_true, otp_Verify_1, otp_VerifyAt_1, otp_code_eq secret c hm h0 (by omega), Option.bind_some, srch, w64 (show -9223372036854775808 ≤ c + 1 by omega) (show c + 1 < 9223372036854775808 by omega)]
    cases codeS secret c == s with
    | true => simp [pairO]
    | false => simpa using ih'
theorem first_loop (secret s : Str) (to_ : Int) (hc' : clean secret = true) (hf : fits secret) (hg : to_ ≤ 36650387592) : ∀ (k n : Nat) (c : Int), 0 ≤ c → c ≤ 36650387593 → (to_ + 1 - c).toNat = k → k < n →
    ref23_first_L1 n secret to_ s c = some (pairO (srch secret s k c)) := by
  intro k
  induction k with
  | zero =>
    intro n c h0 h1 hk hn
    obtain ⟨n, rfl⟩ : ∃ k, n = k + 1 := ⟨n - 1, by omega⟩
    simp [ref23_first_L1, show ¬ (c ≤ to_) by omega, srch, pairO]
  | succ k ih =>
    intro n c h0 h1 hk hn
    obtain ⟨n, rfl⟩ : ∃ k, n = k + 1 := ⟨n - 1, by omega⟩
    have hc : c ≤ to_ := by omega
    have ih' := ih n (c + 1) (by omega) (by omega) (by omega) (by omega)
    have hcr : codeR secret c = (codeS secret c, 0) := by
      simp [codeR, hc', show ¬ c < 0 by omega, show ¬ 36650387592 < c by omega]
    simp only [ref23_first_L1, hc, decide_true, if_true, ref23_Code_eq secret c hf, hcr, Option.bind_some, beq_self_eq_true, Bool.true_and, srch, w64 (show -9223372036854775808 ≤ c + 1 by omega) (show c + 1 < 9223372036854775808 by omega)]
    cases codeS secret c == s with
    | true => simp [pairO]
    | false => simpa using ih'
/-- what Verify returns -/
def verR (secret : Str) (last look : Int) (s : Str) : Int × Int :=
  if clean secret && sixd s then (if ((decide (last < -1) || decide (last > 36650387592)) || decide (look < 0)) || decide (look > 16) then (0, 27) else pairO (srch secret s (gmin (last + look) 36650387592 - last).toNat (last + 1))) else (0, 4)
theorem gmax_id {a b : Int} (h : b ≤ a) : gmax a b = a := by unfold gmax; split <;> omega
theorem fuel_big {n : Nat} (h : n < 9223372036854775808) : n < fuel := by unfold fuel; omega
theorem otp_Verify_eq (secret : Str) (last look : Int) (s : Str) (h1 : fits secret) (h2 : fits s) : otp_Verify secret last look s = some (verR secret last look s) := by
  rw [otp_Verify, otp_form_eq secret s h1 h2, verR, Option.bind_some]
  cases hc : clean secret with
  | false => simp
  | true =>
    cases hs : sixd s with
    | false => simp
    | true =>
      simp only [Bool.and_self, if_true, bne_self_eq_false, Bool.false_eq_true, if_false]
      by_cases hr : (((decide (last < -1) || decide (last > 36650387592)) || decide (look < 0)) || decide (look > 16)) = true
      · rw [if_pos hr, if_pos hr]
      · have hr' := hr
        simp at hr'
        have hg : gmin (last + look) 36650387592 ≤ 36650387592 := by unfold gmin; split <;> omega
        have := (search_loop secret s (last + look) (clean_mid hc).1 (gmin (last + look) 36650387592 - last).toNat fuel (last + 1) (by omega) (by omega) (by congr 1; omega) (fuel_big (by omega))).1
        rw [if_neg hr, if_neg hr, otp_search__Verify_1, w64 (by omega) (by omega), w64 (by omega) (by omega), gmax_id (by omega), this]
        simp
theorem ref23_Verify_eq (secret : Str) (last look : Int) (s : Str) (h1 : fits secret) (h2 : fits s) : ref23_Verify secret last look s = some (verR secret last look s) := by
  rw [ref23_Verify, ref01_Clean_eq secret h1, ref23_possible_eq s h2, verR, Option.bind_some]
  cases hc : clean secret with
  | false => simp
  | true =>
    cases hs : sixd s with
    | false => simp
    | true =>
      simp only [Bool.not_true, Bool.false_eq_true, if_false, Option.bind_some, Bool.and_self, if_true]
      by_cases hr : (((decide (last < -1) || decide (last > 36650387592)) || decide (look < 0)) || decide (look > 16)) = true
      · rw [if_pos hr, if_pos hr]
      · have hr' := hr
        simp at hr'
        have hg : gmin (last + look) 36650387592 ≤ 36650387592 := by unfold gmin; split <;> omega
        have := first_loop secret s (gmin (last + look) 36650387592) hc h1 hg (gmin (last + look) 36650387592 - last).toNat fuel (last + 1) (by omega) (by omega) (by congr 1; omega) (fuel_big (by omega))
        rw [if_neg hr, if_neg hr, ref23_first, w64 (by omega) (by omega), w64 (by omega) (by omega), this]
        simp
/-- steps of skew -/
def skw (skew : Int) : Int := gmin (gmax skew 0) 600 / 30
theorem skw_range (x : Int) : 0 ≤ skw x ∧ skw x ≤ 20 := by unfold skw gmin gmax; repeat' split <;> omega
def atR (secret : Str) (last now skew : Int) (s : Str) : Int × Int :=
  if clean secret && sixd s then (if decide (last < -1) || decide (last > 36650387592) then (0, 27) else
    pairO (srch secret s (gmin (ctr now + skw skew) 36650387592 + 1 - gmax (last + 1) (ctr now - skw skew)).toNat (gmax (last + 1) (ctr now - skw skew)))) else (0, 4)
theorem skw_eq1 (x : Int) : IntKind.i64.wrap ((gmin (gmax x 0) 600).tdiv 30) = skw x := by
  have h : 0 ≤ gmin (gmax x 0) 600 := by unfold gmin gmax; repeat' split <;> omega
  have h2 := skw_range x
  rw [Int.tdiv_eq_ediv_of_nonneg h, w64 (by unfold skw at h2; omega) (by unfold skw at h2; omega)]; rfl
theorem skw_eq2 (x : Int) : IntKind.i64.wrap ((gmax 0 (gmin x 600)).tdiv 30) = skw x := by
  rw [show gmax 0 (gmin x 600) = gmin (gmax x 0) 600 by unfold gmin gmax; repeat' split <;> omega, skw_eq1]
theorem gmax_ge {a b : Int} : a ≤ gmax a b ∧ b ≤ gmax a b ∧ (gmax a b = a ∨ gmax a b = b) := by unfold gmax; split <;> omega
theorem gmin_le {a b : Int} : gmin a b ≤ a ∧ gmin a b ≤ b ∧ (gmin a b = a ∨ gmin a b = b) := by unfold gmin; split <;> omega
theorem otp_VerifyAt_eq (secret : Str) (last now skew : Int) (s : Str) (h1 : fits secret) (h2 : fits s) : otp_VerifyAt secret last now skew s = some (atR secret last now skew s) := by
  rw [otp_VerifyAt, otp_form_eq secret s h1 h2, atR, Option.bind_some]
  cases hc : clean secret with
  | false => simp
  | true =>
    cases hs : sixd s with
    | false => simp
    | true =>
      simp only [Bool.and_self, if_true, bne_self_eq_false, Bool.false_eq_true, if_false]
      by_cases hr : (decide (last < -1) || decide (last > 36650387592)) = true
      · rw [if_pos hr, if_pos hr]
      · have hr' := hr
        simp at hr'
        have c1 := ctr_range now; have c2 := skw_range skew
        have g1 := @gmax_ge (last + 1) (ctr now - skw skew); have g2 := @gmin_le (ctr now + skw skew) 36650387592
        have := (search_loop secret s (ctr now + skw skew) (clean_mid hc).1 _ fuel (gmax (last + 1) (ctr now - skw skew)) (by omega) (by omega) rfl (fuel_big (by omega))).2
        rw [if_neg hr, if_neg hr, otp_Counter_eq, Option.bind_some, Option.bind_some, skw_eq1, w64 (show -9223372036854775808 ≤ last + 1 by omega) (by omega), w64 (show -9223372036854775808 ≤ ctr now - skw skew by omega) (by omega), w64 (show -9223372036854775808 ≤ ctr now + skw skew by omega) (by omega),
          otp_search__VerifyAt_1, gmax_id (show 0 ≤ gmax (last + 1) (ctr now - skw skew) by omega), this]
        simp
theorem ref23_VerifyAt_eq (secret : Str) (last now skew : Int) (s : Str) (h1 : fits secret) (h2 : fits s) : ref23_VerifyAt secret last now skew s = some (atR secret last now skew s) := by
  rw [ref23_VerifyAt, ref01_Clean_eq secret h1, ref23_possible_eq s h2, atR, Option.bind_some]
  cases hc : clean secret with
  | false => simp
  | true =>
    cases hs : sixd s with
    | false => simp
    | true =>
      simp only [Bool.not_true, Bool.false_eq_true, if_false, Option.bind_some, Bool.and_self, if_true]
      by_cases hr : (decide (last < -1) || decide (last > 36650387592)) = true
      · rw [if_pos hr, if_pos hr]
      · have hr' := hr
        simp at hr'
        have c1 := ctr_range now; have c2 := skw_range skew
        have g1 := @gmax_ge (last + 1) (ctr now - skw skew); have g2 := @gmin_le (ctr now + skw skew) 36650387592
        have := first_loop secret s (gmin (ctr now + skw skew) 36650387592) hc h1 (by omega) _ fuel (gmax (last + 1) (ctr now - skw skew)) (by omega) (by omega) rfl (fuel_big (by omega))
        rw [if_neg hr, if_neg hr, ref23_Counter_eq, Option.bind_some, Option.bind_some, skw_eq2, w64 (show -9223372036854775808 ≤ last + 1 by omega) (by omega), w64 (show -9223372036854775808 ≤ ctr now - skw skew by omega) (by omega), w64 (show -9223372036854775808 ≤ ctr now + skw skew by omega) (by omega),
          ref23_first, this]
        simp

/-! ### recovery codes -/
def recC (secret : Str) (i : Nat) : Str := (macS secret ([114, 101, 99, 111, 118, 101, 114, 121] ++ Lib.decDigits i)).take 10
def recL (secret : Str) (n : Nat) : List Str := (List.range n).map (recC secret)
theorem recL_succ (secret : Str) (n : Nat) : recL secret (n + 1) = recL secret n ++ [recC secret n] := by simp [recL, List.range_succ]
theorem recL_len (secret : Str) (n : Nat) : (recL secret n).length = n := by simp [recL]
theorem rec_loop (secret : Str) (N : Nat) (hN : N ≤ 16) (hm : mid secret) : ∀ (k t n : Nat), t + k = N → k < n →
    otp_Recovery_L1 n secret (recL secret t) (N : Int) (t : Int) = some (recL secret N, 0) ∧ ref23_Recovery_L1 n secret (N : Int) (recL secret t) (t : Int) = some (recL secret N, 0) := by
  intro k
  induction k with
  | zero =>
    intro t n ht hn
    obtain ⟨n, rfl⟩ : ∃ k, n = k + 1 := ⟨n - 1, by omega⟩
    have : t = N := by omega
    subst this
    simp [otp_Recovery_L1, ref23_Recovery_L1]
  | succ k ih =>
    intro t n ht hn
    obtain ⟨n, rfl⟩ : ∃ k, n = k + 1 := ⟨n - 1, by omega⟩
    have hdl := dec_len 20 t (by omega) (by omega)
    have hf : fitS [114, 101, 99, 111, 118, 101, 114, 121] (Lib.decDigits t) = true := by simp [fitS]; omega
    have hmm : mid ([114, 101, 99, 111, 118, 101, 114, 121] ++ Lib.decDigits t) := by unfold mid; simp; omega
    have hml := macS_len secret ([114, 101, 99, 111, 118, 101, 114, 121] ++ Lib.decDigits t)
    have hi : inc 0 10 ((macS secret ([114, 101, 99, 111, 118, 101, 114, 121] ++ Lib.decDigits t)).length : Nat) = true := by rw [hml]; rfl
    have hg : gmin ((macS secret ([114, 101, 99, 111, 118, 101, 114, 121] ++ Lib.decDigits t)).length : Int) 10 = 10 := by rw [hml]; rfl
    have hcut : cut (macS secret ([114, 101, 99, 111, 118, 101, 114, 121] ++ Lib.decDigits t)) 0 10 = recC secret t := by simp [cut, recC]
    have hfl : fitL (recL secret t).length ([recC secret t] : List Str).length = true := by simp [fitL, recL_len]; omega
    have ih' := ih (t + 1) n (by omega) (by omega)
    constructor
    · simp only [otp_Recovery_L1, show ((t : Int) < (N : Int)) by omega, decide_true, if_true, codec_Int_eq t (by omega), Option.bind_some, hf, chk_true, digest_Mac_eq secret _ hm hmm, hi, hcut, hfl, ← recL_succ, w64n (show t < 9223372036854775807 by omega)]
      exact ih'.1
    · simp only [ref23_Recovery_L1, show ((t : Int) < (N : Int)) by omega, decide_true, if_true, ref02_Int_eq t (by omega), Option.bind_some, hf, chk_true, ref03_Mac_eq secret _ hm hmm, hg, hi, hcut, hfl, ← recL_succ, w64n (show t < 9223372036854775807 by omega)]
      exact ih'.2
def recR (secret : Str) (n : Int) : List Str × Int := if clean secret then (if decide (n < 1) || decide (n > 16) then ([], 27) else (recL secret n.toNat, 0)) else ([], 4)
theorem otp_Recovery_eq (secret : Str) (n : Int) (h1 : fits secret) : otp_Recovery secret n = some (recR secret n) := by
  rw [otp_Recovery, fold_Clean_eq secret h1, recR, Option.bind_some]
  cases hc : clean secret with
  | false => simp
  | true =>
    simp only [Bool.not_true, Bool.false_eq_true, if_false, if_true]
    by_cases hr : (decide (n < 1) || decide (n > 16)) = true
    · rw [if_pos hr, if_pos hr]
    · have hr' := hr
      simp at hr'
      obtain ⟨m, rfl⟩ : ∃ m : Nat, n = m := ⟨n.toNat, by omega⟩
      rw [if_neg hr, if_neg hr]
      exact (rec_loop secret m (by omega) (clean_mid hc).1 m 0 fuel (by omega) (fuel_big (by omega))).1
theorem ref23_Recovery_eq (secret : Str) (n : Int) (h1 : fits secret) : ref23_Recovery secret n = some (recR secret n) := by
  rw [ref23_Recovery, ref01_Clean_eq secret h1, recR, Option.bind_some]
  cases hc : clean secret with
  | false => simp
  | true =>
    simp only [Bool.not_true, Bool.false_eq_true, if_false, if_true]
    by_cases hr : (decide (n < 1) || decide (n > 16)) = true
    · rw [if_pos hr, if_pos hr]
    · have hr' := hr
      simp at hr'
      obtain ⟨m, rfl⟩ : ∃ m : Nat, n = m := ⟨n.toNat, by omega⟩
      rw [if_neg hr, if_neg hr]
      exact (rec_loop secret m (by omega) (clean_mid hc).1 m 0 fuel (by omega) (fuel_big (by omega))).2
theorem ref07_Lists_eq (a b : List Str) (ha : fits a) : ref07_Lists a b = some (a == b) := by
  unfold ref07_Lists
  by_cases hlen : a.length = b.length
  · have h0 : ((a.length : Int) != (b.length : Int)) = false := by simp [hlen]
    simp only [h0, Bool.false_eq_true, if_false]
    have key : ∀ (r q : List Str) (i n : Nat), a.drop i = r → b.drop i = q → i ≤ a.length → r.length < n → ref07_Lists_L1 n a b (i : Int) = some (r == q) := by
      unfold fits at ha
      intro r
      induction r with
      | nil =>
        intro q i n hd hq hi hn
        obtain ⟨n, rfl⟩ : ∃ k, n = k + 1 := ⟨n - 1, by simp at hn; omega⟩
        have := drop_nil hd
        have hq' : q = [] := by rw [← hq]; simp; omega
        subst hq'
        simp [ref07_Lists_L1, show ¬ ((i : Int) < a.length) by omega]
      | cons x r ih =>
        intro q i n hd hq hi hn
        obtain ⟨n, rfl⟩ : ∃ k, n = k + 1 := ⟨n - 1, by simp at hn; omega⟩
        obtain ⟨h1, h2, h3⟩ := drop_more hd
        have hlt := drop_lt hd
        cases q with
        | nil => have := drop_nil hq; omega
        | cons y q =>
          obtain ⟨g1, g2, g3⟩ := drop_more hq
          simp only [ref07_Lists_L1, show ((i : Int) < a.length) by omega, decide_true, if_true, idx_n, h2, g2, Option.bind_some, w64n (show i < 9223372036854775807 by omega), ih q (i + 1) n h3 g3 (by omega) (by simp at hn; omega), List.cons_beq_cons]
          cases x == y <;> simp
    exact key a b 0 fuel rfl rfl (by omega) (fuel_pos ha)
  · have h0 : ((a.length : Int) != (b.length : Int)) = true := by simp; omega
    have h1 : (a == b) = false := by
      rw [Bool.eq_false_iff]; intro h; exact hlen (by rw [eq_of_beq h])
    simp [h0, h1]

theorem Index_eq (codes : List Str) (s : Str) (hf : fits codes) : slices_Index_string_string codes s = some (if s ∈ codes then (codes.idxOf s : Int) else -1) := by
  have key : ∀ (r : List Str) (i n : Nat), codes.drop i = r → i ≤ codes.length → r.length < n →
      slices_Index_string_string_L1 n codes s (codes.length : Int) (i : Int) = some (if s ∈ r then ((i + r.idxOf s : Nat) : Int) else -1) := by
    unfold fits at hf
    intro r
    induction r with
    | nil =>
      intro i n hd hi hn
      obtain ⟨n, rfl⟩ : ∃ k, n = k + 1 := ⟨n - 1, by simp at hn; omega⟩
      have := drop_nil hd
      simp [slices_Index_string_string_L1, show ¬ ((i : Int) < codes.length) by omega]
    | cons x r ih =>
      intro i n hd hi hn
      obtain ⟨n, rfl⟩ : ∃ k, n = k + 1 := ⟨n - 1, by simp at hn; omega⟩
      obtain ⟨h1, h2, h3⟩ := drop_more hd
      have hlt := drop_lt hd
      simp only [slices_Index_string_string_L1, show ((i : Int) < codes.length) by omega, decide_true, if_true, idx_n, h2, Option.bind_some, w64n (show i < 9223372036854775807 by omega), ih (i + 1) n h3 (by omega) (by simp at hn; omega)]
      by_cases hx : s = x
      · subst hx; simp
      · have e1 : (s == x) = false := by simpa using hx
        have e2 : (x == s) = false := by simpa using Ne.symm hx
        rw [e1]
        simp only [Bool.false_eq_true, if_false, List.mem_cons, hx, false_or, List.idxOf_cons, e2, cond_false]
        by_cases hm : s ∈ r
        · simp only [hm, if_true]; congr 1; omega
        · simp only [hm, if_false]
  have := key codes 0 fuel rfl (by omega) (fuel_pos hf)
  simpa [slices_Index_string_string] using this
def redR (codes : List Str) (s : Str) : List Str × Int := if s ∈ codes then (codes.erase s, 0) else ([], 6)
theorem erase_cut {codes : List Str} {s : Str} (h : s ∈ codes) : codes.take (codes.idxOf s) ++ codes.drop (codes.idxOf s + 1) = codes.erase s := by
  rw [List.erase_eq_eraseIdx_of_idxOf rfl, List.eraseIdx_eq_take_drop_succ]
theorem otp_Redeem_eq (codes : List Str) (s : Str) (hf : codes.length ≤ 1000000) : otp_Redeem codes s = some (redR codes s) := by
  rw [otp_Redeem, Index_eq codes s (by unfold fits; omega), redR, Option.bind_some]
  by_cases hm : s ∈ codes
  · have hlt := List.idxOf_lt_length_of_mem hm
    have e0 : ¬ ((codes.idxOf s : Int) < 0) := by omega
    have e1 : lib_Clone codes = some codes := by unfold lib_Clone; rw [chk_t (by simp; omega)]
    have e2 : IntKind.i64.wrap ((codes.idxOf s : Int) + 1) = ((codes.idxOf s + 1 : Nat) : Int) := w64n (by omega)
    have e3 : lib_Delete codes (codes.idxOf s : Int) ((codes.idxOf s + 1 : Nat) : Int) = some (codes.erase s) := by
      unfold lib_Delete
      rw [chk_t (by rw [inc_n]; simp; omega)]
      simp only [Int.toNat_natCast]
      rw [erase_cut hm]
    simp only [hm, if_true, e0, decide_false, Bool.false_eq_true, if_false, e1, Option.bind_some, e2, e3]
  · simp [hm]
theorem ref23_Redeem_eq (codes : List Str) (s : Str) (hf : codes.length ≤ 1000000) : ref23_Redeem codes s = some (redR codes s) := by
  have key : ∀ (r : List Str) (i n : Nat), codes.drop i = r → i ≤ codes.length → r.length < n →
      ref23_Redeem_L1 n codes s (i : Int) = some (if s ∈ r then (codes.take (i + r.idxOf s) ++ codes.drop (i + r.idxOf s + 1), 0) else ([], 6)) := by
    intro r
    induction r with
    | nil =>
      intro i n hd hi hn
      obtain ⟨n, rfl⟩ : ∃ k, n = k + 1 := ⟨n - 1, by simp at hn; omega⟩
      have := drop_nil hd
      simp [ref23_Redeem_L1, show ¬ ((i : Int) < codes.length) by omega]
    | cons x r ih =>
      intro i n hd hi hn
      obtain ⟨n, rfl⟩ : ∃ k, n = k + 1 := ⟨n - 1, by simp at hn; omega⟩
      obtain ⟨h1, h2, h3⟩ := drop_more hd
      have hlt := drop_lt hd
      have e1 : inc 0 (i : Int) codes.length = true := by rw [inc_0]; simp; omega
      have e2 : inc ((i + 1 : Nat) : Int) codes.length codes.length = true := by rw [inc_n]; simp; omega
      have e3 : ∀ a b : Nat, a + b ≤ 3000000 → fitL a b = true := fun a b h => by simp [fitL]; omega
      simp only [ref23_Redeem_L1, show ((i : Int) < codes.length) by omega, decide_true, if_true, idx_n, h2, Option.bind_some, w64n (show i < 9223372036854775807 by omega), ih (i + 1) n h3 (by omega) (by simp at hn; omega), e1, e2, chk_true, cut_0, cut_n, List.nil_append]
      by_cases hx : s = x
      · subst hx
        rw [chk_t (e3 _ _ (by simp; omega)), chk_t (e3 _ _ (by simp; omega))]
        have e4 : (codes.drop (i + 1)).take (codes.length - (i + 1)) = codes.drop (i + 1) := List.take_of_length_le (by simp)
        simp [e4]
      · have e1 : (x == s) = false := by simpa using Ne.symm hx
        rw [e1]
        simp only [Bool.false_eq_true, if_false, List.mem_cons, hx, false_or, List.idxOf_cons, e1, cond_false]
        by_cases hm : s ∈ r
        · simp only [hm, if_true, show i + 1 + r.idxOf s = i + (r.idxOf s + 1) by omega]
        · simp only [hm, if_false]
  have := key codes 0 fuel rfl (by omega) (fuel_big (by omega))
  rw [ref23_Redeem, show (0 : Int) = ((0 : Nat) : Int) from rfl, this, redR]
  by_cases hm : s ∈ codes
  · simp only [hm, if_true, Nat.zero_add, erase_cut hm]
  · simp only [hm, if_false]
theorem count_eq (l : List Str) (s : Str) (hf : l.length ≤ 1000000) : law23_count l s = some ((l.count s : Nat) : Int) := by
  have key : ∀ (r : List Str) (i n c : Nat), l.drop i = r → i ≤ l.length → r.length < n → c ≤ i → law23_count_L1 n l s (c : Int) (i : Int) = some ((c + r.count s : Nat) : Int) := by
    intro r
    induction r with
    | nil =>
      intro i n c hd hi hn hc
      obtain ⟨n, rfl⟩ : ∃ k, n = k + 1 := ⟨n - 1, by simp at hn; omega⟩
      have := drop_nil hd
      simp [law23_count_L1, show ¬ ((i : Int) < l.length) by omega]
    | cons x r ih =>
      intro i n c hd hi hn hc
      obtain ⟨n, rfl⟩ : ∃ k, n = k + 1 := ⟨n - 1, by simp at hn; omega⟩
      obtain ⟨h1, h2, h3⟩ := drop_more hd
      have hlt := drop_lt hd
      simp only [law23_count_L1, show ((i : Int) < l.length) by omega, decide_true, if_true, idx_n, h2, Option.bind_some, law23_count_B2, w64n (show i < 9223372036854775807 by omega), w64n (show c < 9223372036854775807 by omega), List.count_cons]
      cases hx : x == s with
      | true => simp only [if_true, ih (i + 1) n (c + 1) h3 (by omega) (by simp at hn; omega) (by omega)]; congr 2; omega
      | false => simp only [Bool.false_eq_true, if_false, ih (i + 1) n c h3 (by omega) (by simp at hn; omega) (by omega), Nat.add_zero]
  have := key l 0 fuel 0 rfl (by omega) (fuel_big (by omega)) (by omega)
  simpa [law23_count] using this
theorem short_eq (l : List Str) (hf : fits l) : law23_short l = some (l.all (fun s => decide (s.length ≤ 100)) && decide (l.length ≤ 20)) := by
  have key : ∀ (r : List Str) (i n : Nat), l.drop i = r → i ≤ l.length → r.length < n → law23_short_L1 n l (i : Int) = some (r.all (fun s => decide (s.length ≤ 100)) && decide (l.length ≤ 20)) := by
    unfold fits at hf
    intro r
    induction r with
    | nil =>
      intro i n hd hi hn
      obtain ⟨n, rfl⟩ : ∃ k, n = k + 1 := ⟨n - 1, by simp at hn; omega⟩
      have := drop_nil hd
      simp only [law23_short_L1, show ¬ ((i : Int) < l.length) by omega, decide_false, Bool.false_eq_true, if_false, List.all_nil, Bool.true_and, Option.some.injEq]
      rw [decide_eq_decide]; omega
    | cons x r ih =>
      intro i n hd hi hn
      obtain ⟨n, rfl⟩ : ∃ k, n = k + 1 := ⟨n - 1, by simp at hn; omega⟩
      obtain ⟨h1, h2, h3⟩ := drop_more hd
      have hlt := drop_lt hd
      simp only [law23_short_L1, show ((i : Int) < l.length) by omega, decide_true, if_true, idx_n, h2, Option.bind_some, w64n (show i < 9223372036854775807 by omega), ih (i + 1) n h3 (by omega) (by simp at hn; omega), List.all_cons]
      by_cases hx : x.length ≤ 100
      · simp [hx, show ¬ ((x.length : Int) > 100) by omega, show ¬ (100 < (x.length : Int)) by omega]
      · simp [hx, show ((x.length : Int) > 100) by omega, show (100 < (x.length : Int)) by omega]
  exact key l 0 fuel rfl (by omega) (fuel_pos hf)
/-! ### the statements -/
set_option maxRecDepth 100000 in
theorem alive23 : law23_alive = some true := by kernel_rfl
theorem sixL_dig : ∀ k m, (sixL k m).all dig = true
  | 0, _ => rfl
  | k + 1, m => by
    have h : ∀ d : Nat, d < 10 → dig (UInt8.ofNat (48 + d)) = true := by decide
    simp only [sixL, List.all_append, sixL_dig k, List.all_cons, List.all_nil, h (m % 10) (Nat.mod_lt _ (by omega)), Bool.and_self]
theorem codeS_six (s : Str) (c : Int) : sixd (codeS s c) = true := by
  simp [sixd, codeS_len]
  have := sixL_dig 6 (sumS (macS s (Lib.decDigits c.toNat)) % 1000000)
  simpa [codeS, sixS] using this
theorem codeR_len (s : Str) (c : Int) : (codeR s c).1.length ≤ 6 := by
  unfold codeR
  split
  · split
    · simp
    · simp [codeS_len]
  · simp
theorem codes_true (secret : Str) (c : Int) : law23_OtpCodes secret c = some true := by
  unfold law23_OtpCodes
  by_cases h : ((secret.length : Int) > 300)
  · simp [h, alive23]
  · have hf : fits secret := by unfold fits; omega
    simp [h, otp_Code_eq secret c hf, ref23_Code_eq secret c hf, otp_Counter_eq, ref23_Counter_eq, alive23]
/-- the code that is tried -/
def typS (x : law23_Try) : Str := if x.Near then (codeR x.Secret (IntKind.i64.wrap ((gmax 0 (gmin x.Last 1099511627776)) + (Int.tmod x.K 20)))).1 else x.Code
theorem typed_eq (x : law23_Try) (h : fits x.Secret) : law23_typed x = some (typS x) := by
  unfold law23_typed typS
  cases x.Near with
  | false => simp
  | true => simp [ref23_Code_eq x.Secret _ h]
theorem fits_eq (x : law23_Try) : law23_fits x = some true ∧ x.Secret.length ≤ 300 ∧ x.Code.length ≤ 300 ∨ law23_fits x = some false := by
  unfold law23_fits
  by_cases h1 : ((x.Secret.length : Int) ≤ 300)
  · by_cases h2 : ((x.Code.length : Int) ≤ 300)
    · exact .inl ⟨by simp [h1, h2], by omega, by omega⟩
    · exact .inr (by simp [h2])
  · exact .inr (by simp [h1])
theorem typS_fits (x : law23_Try) (h : x.Code.length ≤ 300) : fits (typS x) := by
  unfold typS fits
  split
  · have := codeR_len x.Secret (IntKind.i64.wrap ((gmax 0 (gmin x.Last 1099511627776)) + (Int.tmod x.K 20))); omega
  · omega
theorem verifies_true (x : law23_Try) : law23_OtpVerifies x = some true := by
  unfold law23_OtpVerifies
  rcases fits_eq x with ⟨h, h1, h2⟩ | h
  · have hf : fits x.Secret := by unfold fits; omega
    have ht := typS_fits x h2
    simp only [h, Option.bind_some, Bool.not_true, Bool.false_eq_true, if_false, typed_eq x hf, otp_Verify_eq _ _ _ _ hf ht, ref23_Verify_eq _ _ _ _ hf ht, otp_VerifyAt_eq _ _ _ _ _ hf ht, ref23_VerifyAt_eq _ _ _ _ _ hf ht, beq_self_eq_true, Bool.and_self, if_true, alive23]
  · simp [h, alive23]
theorem short_gate (l : List Str) (hf : fits l) : law23_short l = some false ∨ law23_short l = some true ∧ l.length ≤ 20 := by
  rw [short_eq l hf]
  cases h : (l.all (fun s => decide (s.length ≤ 100)) && decide (l.length ≤ 20)) with
  | false => exact .inl rfl
  | true =>
    simp only [Bool.and_eq_true, decide_eq_true_eq] at h
    exact .inr ⟨rfl, h.2⟩
theorem recR_len (s : Str) (n : Int) : (recR s n).1.length ≤ 16 := by
  unfold recR
  split
  · split
    · simp
    · rename_i h; simp at h; simp [recL_len]; omega
  · simp
theorem redR_len (l : List Str) (s : Str) : (redR l s).1.length ≤ l.length := by
  unfold redR
  split
  · exact List.length_erase_le
  · simp
theorem recovers_true (secret : Str) (n : Int) (codes : List Str) (hc : fits codes) : law23_OtpRecovers secret n codes = some true := by
  unfold law23_OtpRecovers
  by_cases h : ((secret.length : Int) > 300)
  · simp [h, alive23]
  · have hf : fits secret := by unfold fits; omega
    rcases short_gate codes hc with g | ⟨g, g2⟩
    · simp [h, g, alive23]
    · have b1 : ∀ s : Str, law23_OtpRecovers_B1 codes (recR secret n).1 (recR secret n).2 (recR secret n).1 (recR secret n).2 s = some true := by
        intro s
        have f1 : fits (recR secret n).1 := by have := recR_len secret n; unfold fits; omega
        have f2 : fits (redR codes s).1 := by have := redR_len codes s; unfold fits; omega
        simp only [law23_OtpRecovers_B1, otp_Redeem_eq codes s (by omega), ref23_Redeem_eq codes s (by omega), Option.bind_some, ref07_Lists_eq _ _ f1, ref07_Lists_eq _ _ f2, beq_self_eq_true, Bool.and_self, if_true, alive23]
      simp only [h, decide_false, Bool.false_eq_true, if_false, g, Option.bind_some, Bool.not_true, otp_Recovery_eq secret n hf, ref23_Recovery_eq secret n hf]
      cases hcs : codes with
      | nil => rw [hcs] at b1; simpa using b1 []
      | cons a r =>
        have e1 : IntKind.i64.wrap ((((a :: r).length : Nat) : Int) - 1) = ((r.length : Nat) : Int) := by
          rw [hcs] at g2
          simp only [List.length_cons] at g2 ⊢
          rw [w64 (by omega) (by omega)]; omega
        obtain ⟨z, hz⟩ : ∃ z, (a :: r)[r.length]? = some z := ⟨_, List.getElem?_eq_getElem (by simp)⟩
        rw [hcs] at b1
        have e2 : decide ((((a :: r).length : Nat) : Int) > 0) = true := by simp only [List.length_cons, decide_eq_true_eq]; omega
        simp only [e2, if_true, e1, idx_n, hz, Option.bind_some]
        exact b1 z
theorem ver_ok {secret s : Str} {last look : Int} (h : ((verR secret last look s).2 == 0) = true) :
    clean secret = true ∧ sixd s = true ∧ -1 ≤ last ∧ last ≤ 36650387592 ∧ 0 ≤ look ∧ look ≤ 16 ∧ srch secret s (gmin (last + look) 36650387592 - last).toNat (last + 1) = some (verR secret last look s).1 ∧
      last < (verR secret last look s).1 ∧ (verR secret last look s).1 ≤ last + look ∧ (verR secret last look s).1 ≤ 36650387592 ∧ codeS secret (verR secret last look s).1 = s := by
  unfold verR at h ⊢
  by_cases hc : (clean secret && sixd s) = true
  · rw [if_pos hc] at h ⊢
    by_cases hr : (((decide (last < -1) || decide (last > 36650387592)) || decide (look < 0)) || decide (look > 16)) = true
    · rw [if_pos hr] at h; cases h
    · rw [if_neg hr] at h ⊢
      have hr' := hr
      simp at hr'
      simp only [Bool.and_eq_true] at hc
      cases hs : srch secret s (gmin (last + look) 36650387592 - last).toNat (last + 1) with
      | none => rw [hs] at h; cases h
      | some d =>
        obtain ⟨g1, g2, g3, g4⟩ := srch_some hs
        have g5 := @gmin_le (last + look) 36650387592
        exact ⟨hc.1, hc.2, by omega, by omega, by omega, by omega, rfl, by simp [pairO]; omega, by simp [pairO]; omega, by simp [pairO]; omega, g3⟩
  · rw [if_neg hc] at h; cases h
theorem at_ok {secret s : Str} {last now skew : Int} (h : ((atR secret last now skew s).2 == 0) = true) :
    clean secret = true ∧ sixd s = true ∧ -1 ≤ last ∧ last ≤ 36650387592 ∧ last < (atR secret last now skew s).1 ∧ ctr now - skw skew ≤ (atR secret last now skew s).1 ∧ (atR secret last now skew s).1 ≤ ctr now + skw skew ∧ (atR secret last now skew s).1 ≤ 36650387592 ∧
      codeS secret (atR secret last now skew s).1 = s := by
  unfold atR at h ⊢
  by_cases hc : (clean secret && sixd s) = true
  · rw [if_pos hc] at h ⊢
    by_cases hr : (decide (last < -1) || decide (last > 36650387592)) = true
    · rw [if_pos hr] at h; cases h
    · rw [if_neg hr] at h ⊢
      have hr' := hr
      simp at hr'
      simp only [Bool.and_eq_true] at hc
      cases hs : srch secret s (gmin (ctr now + skw skew) 36650387592 + 1 - gmax (last + 1) (ctr now - skw skew)).toNat (gmax (last + 1) (ctr now - skw skew)) with
      | none => rw [hs] at h; cases h
      | some d =>
        obtain ⟨g1, g2, g3, g4⟩ := srch_some hs
        have g5 := @gmin_le (ctr now + skw skew) 36650387592; have g6 := @gmax_ge (last + 1) (ctr now - skw skew)
        exact ⟨hc.1, hc.2, by omega, by omega, by simp [pairO]; omega, by simp [pairO]; omega, by simp [pairO]; omega, by simp [pairO]; omega, g3⟩
  · rw [if_neg hc] at h; cases h
theorem codeR_at {secret : Str} {c : Int} (hc : clean secret = true) (h0 : 0 ≤ c) (h1 : c ≤ 36650387592) : codeR secret c = (codeS secret c, 0) := by
  simp [codeR, hc, show ¬ c < 0 by omega, show ¬ 36650387592 < c by omega]
theorem once_true (x : law23_Try) (hl : -9223372036854775808 ≤ x.Last ∧ x.Last < 9223372036854775808) : law23_OtpOnce x = some true := by
  unfold law23_OtpOnce
  rcases fits_eq x with ⟨h, h1, h2⟩ | h
  · have hf : fits x.Secret := by unfold fits; omega
    have ht := typS_fits x h2
    have b1 : law23_OtpOnce_B1 x.Secret x.Code x.Last x.Look x.Now x.K x.Near (typS x) = some true := by
      simp only [law23_OtpOnce_B1, otp_VerifyAt_eq _ _ _ _ _ hf ht, Option.bind_some]
      by_cases hv : ((atR x.Secret x.Last x.Now x.Look (typS x)).2 == 0) = true
      · obtain ⟨k1, k2, k3, k4, k5, k6, k7, k8, k9⟩ := at_ok hv
        have ks := skw_range x.Look; have kc := ctr_range x.Now
        have e1 : (decide ((atR x.Secret x.Last x.Now x.Look (typS x)).1 ≤ x.Last)) = false := by simp; omega
        have e2 : IntKind.i64.wrap ((atR x.Secret x.Last x.Now x.Look (typS x)).1 - ctr x.Now) = (atR x.Secret x.Last x.Now x.Look (typS x)).1 - ctr x.Now := w64 (by omega) (by omega)
        have e3 : decide ((atR x.Secret x.Last x.Now x.Look (typS x)).1 - ctr x.Now > 20) = false := by simp; omega
        have e4 : decide ((atR x.Secret x.Last x.Now x.Look (typS x)).1 - ctr x.Now < -20) = false := by simp; omega
        have e5 : ((atR x.Secret (atR x.Secret x.Last x.Now x.Look (typS x)).1 x.Now x.Look (typS x)).2 == 0 && decide ((atR x.Secret (atR x.Secret x.Last x.Now x.Look (typS x)).1 x.Now x.Look (typS x)).1 ≤ (atR x.Secret x.Last x.Now x.Look (typS x)).1)) = false := by
          cases hw : (atR x.Secret (atR x.Secret x.Last x.Now x.Look (typS x)).1 x.Now x.Look (typS x)).2 == 0 with
          | false => rfl
          | true => have := (at_ok hw).2.2.2.2.1; simp; omega
        simp only [hv, if_true, otp_Code_eq _ _ hf, otp_VerifyAt_eq _ _ _ _ _ hf ht, otp_Counter_eq, Option.bind_some, codeR_at k1 (show 0 ≤ (atR x.Secret x.Last x.Now x.Look (typS x)).1 by omega) k8, k9, bne_self_eq_false, beq_self_eq_true, Bool.not_true, Bool.or_self, Bool.false_or, e1, e2, e3, e4, e5, Bool.false_eq_true, if_false, law23_OtpOnce_B2, alive23]
      · simp only [Bool.not_eq_true] at hv
        simp only [hv, Bool.false_eq_true, if_false, law23_OtpOnce_B2, alive23, Option.bind_some]
    simp only [h, Option.bind_some, Bool.not_true, Bool.false_eq_true, if_false, typed_eq x hf, otp_Verify_eq _ _ _ _ hf ht]
    by_cases hv : ((verR x.Secret x.Last x.Look (typS x)).2 == 0) = true
    · obtain ⟨k1, k2, k3, k4, k5, k6, _, k8, k9, k10, k11⟩ := ver_ok hv
      have e1 : (decide ((verR x.Secret x.Last x.Look (typS x)).1 ≤ x.Last)) = false := by simp; omega
      have e2 : IntKind.i64.wrap (x.Last + x.Look) = x.Last + x.Look := w64 (by omega) (by omega)
      have e3 : decide ((verR x.Secret x.Last x.Look (typS x)).1 > x.Last + x.Look) = false := by simp; omega
      have e5 : ((verR x.Secret (verR x.Secret x.Last x.Look (typS x)).1 x.Look (typS x)).2 == 0 && decide ((verR x.Secret (verR x.Secret x.Last x.Look (typS x)).1 x.Look (typS x)).1 ≤ (verR x.Secret x.Last x.Look (typS x)).1)) = false := by
        cases hw : (verR x.Secret (verR x.Secret x.Last x.Look (typS x)).1 x.Look (typS x)).2 == 0 with
        | false => rfl
        | true => have := (ver_ok hw).2.2.2.2.2.2.2.1; simp; omega
      simp only [hv, if_true, otp_Code_eq _ _ hf, otp_Verify_eq _ _ _ _ hf ht, Option.bind_some, codeR_at k1 (show 0 ≤ (verR x.Secret x.Last x.Look (typS x)).1 by omega) k10, k11, bne_self_eq_false, beq_self_eq_true, Bool.not_true, Bool.or_self, Bool.false_or, e1, e2, e3, e5, Bool.false_eq_true, if_false, b1]
    · simp only [Bool.not_eq_true] at hv
      simp only [hv, Bool.false_eq_true, if_false, b1]
  · simp [h, alive23]
theorem pairO_ok {o : Option Int} : ((pairO o).2 == 0) = o.isSome := by cases o <;> rfl
theorem skw_30 {k : Int} (h0 : 0 ≤ k) (h1 : k ≤ 16) : skw (30 * k) = k := by
  unfold skw gmin gmax; repeat' split <;> omega
theorem skw_0 : skw 0 = 0 := rfl
theorem windows_true (x : law23_Try) : law23_OtpWindows x = some true := by
  unfold law23_OtpWindows
  rcases fits_eq x with ⟨h, h1, h2⟩ | h
  · have hf : fits x.Secret := by unfold fits; omega
    have ht := typS_fits x h2
    by_cases hl : (decide (x.Look < 0) || decide (x.Look > 15)) = true
    · have : ((!true) || decide (x.Look < 0) || decide (x.Look > 15)) = true := by simpa using hl
      simp only [h, Option.bind_some, this, if_true, alive23]
    · have hl' := hl
      simp at hl'
      have e0 : ((!true) || decide (x.Look < 0) || decide (x.Look > 15)) = false := by simpa using hl'
      have e1 : IntKind.i64.wrap (x.Look + 1) = x.Look + 1 := w64 (by omega) (by omega)
      have e2 : IntKind.i64.wrap (30 * x.Look) = 30 * x.Look := w64 (by omega) (by omega)
      have e3 : IntKind.i64.wrap (30 * x.Look + 30) = 30 * (x.Look + 1) := by rw [w64 (by omega) (by omega)]; omega
      -- a greater window
      have w1 : ((verR x.Secret x.Last x.Look (typS x)).2 == 0 && ((verR x.Secret x.Last (x.Look + 1) (typS x)).2 != 0 || (verR x.Secret x.Last x.Look (typS x)).1 != (verR x.Secret x.Last (x.Look + 1) (typS x)).1)) = false := by
        cases hv : (verR x.Secret x.Last x.Look (typS x)).2 == 0 with
        | false => rfl
        | true =>
          obtain ⟨k1, k2, k3, k4, k5, k6, k7, k8, k9, k10, k11⟩ := ver_ok hv
          obtain ⟨g1, g2, g3, g4⟩ := srch_some k7
          have q1 := @gmin_le (x.Last + x.Look) 36650387592; have q2 := @gmin_le (x.Last + (x.Look + 1)) 36650387592
          have hs := srch_of (k := (gmin (x.Last + (x.Look + 1)) 36650387592 - x.Last).toNat) g1 (by omega) g3 g4
          have e : verR x.Secret x.Last (x.Look + 1) (typS x) = ((verR x.Secret x.Last x.Look (typS x)).1, 0) := by
            conv => lhs; unfold verR
            rw [if_pos (by simp [k1, k2]), if_neg (by simp; omega), hs]; rfl
          rw [e]; simp
      have w2 : ((atR x.Secret x.Last x.Now (30 * x.Look) (typS x)).2 == 0 && (atR x.Secret x.Last x.Now (30 * (x.Look + 1)) (typS x)).2 != 0) = false := by
        cases hv : (atR x.Secret x.Last x.Now (30 * x.Look) (typS x)).2 == 0 with
        | false => rfl
        | true =>
          obtain ⟨k1, k2, k3, k4, k5, k6, k7, k8, k9⟩ := at_ok hv
          rw [skw_30 (by omega) (by omega)] at k6 k7
          have e : (atR x.Secret x.Last x.Now (30 * (x.Look + 1)) (typS x)).2 == 0 := by
            unfold atR
            rw [if_pos (by simp [k1, k2]), if_neg (by simp; omega), pairO_ok, skw_30 (by omega) (by omega)]
            have q1 := @gmin_le (ctr x.Now + (x.Look + 1)) 36650387592; have q2 := @gmax_ge (x.Last + 1) (ctr x.Now - (x.Look + 1))
            cases hs : srch x.Secret (typS x) (gmin (ctr x.Now + (x.Look + 1)) 36650387592 + 1 - gmax (x.Last + 1) (ctr x.Now - (x.Look + 1))).toNat (gmax (x.Last + 1) (ctr x.Now - (x.Look + 1))) with
            | some d => rfl
            | none => exact absurd k9 (srch_none hs _ (by omega) (by omega))
          simp at e
          simp [e]
      have hcf : ∀ c, fits (codeR x.Secret c).1 := fun c => by have := codeR_len x.Secret c; unfold fits; omega
      simp only [h, Option.bind_some, e0, Bool.false_eq_true, if_false, typed_eq x hf, otp_Verify_eq _ _ _ _ hf ht, e1, e2, e3, w1, otp_VerifyAt_eq _ _ _ _ _ hf ht, w2, otp_Counter_eq, otp_Code_eq _ _ hf, otp_VerifyAt_eq _ _ _ _ _ hf (hcf _)]
      have hcr := ctr_range x.Now
      cases hc : clean x.Secret with
      | false =>
        have : codeR x.Secret (ctr x.Now) = ([], 4) := by simp [codeR, hc]
        simp [this, alive23]
      | true =>
        rw [codeR_at hc hcr.1 hcr.2]
        by_cases hlast : x.Last < -1
        · simp [hlast, alive23]
        · by_cases hge : x.Last ≥ ctr x.Now
          · simp [hlast, hge, alive23]
          · have hat : atR x.Secret x.Last x.Now 0 (codeS x.Secret (ctr x.Now)) = (ctr x.Now, 0) := by
              have g1 : gmin (ctr x.Now + 0) 36650387592 = ctr x.Now := by unfold gmin; split <;> omega
              have g2 : gmax (x.Last + 1) (ctr x.Now - 0) = ctr x.Now := by unfold gmax; split <;> omega
              unfold atR
              rw [if_pos (by simp [hc, codeS_six]), if_neg (by simp; omega), skw_0, g1, g2, srch_of (d := ctr x.Now) (Int.le_refl _) (by omega) rfl (fun e h1 h2 => by omega)]
              rfl
            have hr := lim_range x.Now
            have hlater : (decide (IntKind.i64.wrap (lim (lim x.Now + lim 30) - lim x.Now) < 30) || (ctr (lim (lim x.Now + lim 30)) == IntKind.i64.wrap (ctr x.Now + 1))) = true := by
              have e30 : lim 30 = 30 := rfl
              rw [e30]
              by_cases hm : lim x.Now + 30 ≤ 1099511627776
              · have e4 : lim (lim x.Now + 30) = lim x.Now + 30 := by rw [lim_val]; split <;> (try split) <;> omega
                have e5 : ctr (lim x.Now + 30) = ctr x.Now + 1 := by unfold ctr; rw [e4]; omega
                rw [e4, e5, w64 (show -9223372036854775808 ≤ ctr x.Now + 1 by omega) (by omega)]
                simp
              · have e4 : lim (lim x.Now + 30) = 1099511627776 := by rw [lim_val]; split <;> (try split) <;> omega
                rw [e4, w64 (by omega) (by omega)]
                simp; omega
            have hl2 : ¬ (ctr x.Now ≤ x.Last) := hge
            simp only [bne_self_eq_false, Bool.false_or, hlast, decide_false, Bool.false_eq_true, if_false, Option.bind_some, hge, hat, clock_Add_eq x.Now 30, clock_Add0_eq, beq_self_eq_true, if_true]
            cases hd : decide (IntKind.i64.wrap (lim (lim x.Now + lim 30) - lim x.Now) < 30) with
            | true => simp [alive23]
            | false =>
              rw [hd] at hlater
              simp only [Bool.false_or] at hlater
              simp [hlater, alive23]
  · simp [h, alive23]
theorem redeems_loop (codes : List Str) (hl : codes.length ≤ 20) : law23_OtpRedeems_B1 codes = some true := by
  have inner : ∀ (r0 : List Str → Int → Option Bool) (i : Nat) (z : Str), codes[i]? = some z → r0 codes ((i + 1 : Nat) : Int) = some true → ∀ (r : List Str) (k n : Nat), codes.drop k = r → k ≤ codes.length → r.length < n →
      law23_OtpRedeems_L3 r0 n codes (i : Int) (codes.erase z) (k : Int) = some true := by
    intro r0 i z hz hr0 r
    have hi := (List.getElem?_eq_some_iff.1 hz).1
    have hzm : z ∈ codes := List.mem_of_getElem? hz
    induction r with
    | nil =>
      intro k n hd hk hn
      obtain ⟨n, rfl⟩ : ∃ k, n = k + 1 := ⟨n - 1, by simp at hn; omega⟩
      have := drop_nil hd
      simp only [law23_OtpRedeems_L3, show ¬ ((k : Int) < codes.length) by omega, decide_false, Bool.false_eq_true, if_false, w64n (show i < 9223372036854775807 by omega), hr0]
    | cons y r ih =>
      intro k n hd hk hn
      obtain ⟨n, rfl⟩ : ∃ k, n = k + 1 := ⟨n - 1, by simp at hn; omega⟩
      obtain ⟨h1, h2, h3⟩ := drop_more hd
      have hlt := drop_lt hd
      have hle : (codes.erase z).length ≤ codes.length := List.length_erase_le
      have hcl : codes.count y ≤ codes.length := List.count_le_length
      have b4 : ∀ less : Nat, (codes.erase z).count y + less = codes.count y → less ≤ 1 → law23_OtpRedeems_B4 r0 (law23_OtpRedeems_L3 r0 n) codes (i : Int) (codes.erase z) (k : Int) (less : Int) = some true := by
        intro less hless h01
        have e : IntKind.i64.wrap (((codes.count y : Nat) : Int) - (less : Int)) = (((codes.erase z).count y : Nat) : Int) := by rw [w64 (by omega) (by omega)]; omega
        simp only [law23_OtpRedeems_B4, idx_n, h2, Option.bind_some, count_eq _ _ (show (codes.erase z).length ≤ 1000000 by omega), count_eq _ _ (show codes.length ≤ 1000000 by omega), e, bne_self_eq_false, Bool.false_eq_true, if_false, w64n (show k < 9223372036854775807 by omega)]
        exact ih (k + 1) n h3 (by omega) (by simp at hn; omega)
      simp only [law23_OtpRedeems_L3, show ((k : Int) < codes.length) by omega, decide_true, if_true, idx_n, h2, hz, Option.bind_some]
      by_cases hy : y = z
      · subst hy
        have hpos : 0 < codes.count y := List.count_pos_iff.2 hzm
        have := b4 1 (by rw [List.count_erase_self]; omega) (by omega)
        simpa using this
      · have e1 : (y == z) = false := by simpa using hy
        have := b4 0 (by rw [List.count_erase_of_ne hy, Nat.add_zero]) (by omega)
        simpa [e1] using this
  have key : ∀ (r : List Str) (i n : Nat), codes.drop i = r → i ≤ codes.length → r.length < n → law23_OtpRedeems_L2 n codes (i : Int) = some true := by
    intro r
    induction r with
    | nil =>
      intro i n hd hi hn
      obtain ⟨n, rfl⟩ : ∃ k, n = k + 1 := ⟨n - 1, by simp at hn; omega⟩
      have := drop_nil hd
      simp [law23_OtpRedeems_L2, show ¬ ((i : Int) < codes.length) by omega, alive23]
    | cons z r ih =>
      intro i n hd hi hn
      obtain ⟨n, rfl⟩ : ∃ k, n = k + 1 := ⟨n - 1, by simp at hn; omega⟩
      obtain ⟨h1, h2, h3⟩ := drop_more hd
      have hlt := drop_lt hd
      have hm : z ∈ codes := List.mem_of_getElem? h2
      have hr : redR codes z = (codes.erase z, 0) := by simp [redR, hm]
      have hlen : (((codes.erase z).length : Nat) : Int) = IntKind.i64.wrap ((codes.length : Int) - 1) := by
        rw [List.length_erase_of_mem hm, w64 (by omega) (by omega)]; omega
      simp only [law23_OtpRedeems_L2, show ((i : Int) < codes.length) by omega, decide_true, if_true, idx_n, h2, Option.bind_some, otp_Redeem_eq codes z (by omega), hr, bne_self_eq_false, Bool.false_or, hlen, Bool.false_eq_true, if_false]
      exact inner _ i z h2 (ih (i + 1) n h3 (by omega) (by simp at hn; omega)) codes 0 fuel rfl (by omega) (fuel_big (by omega))
  exact key codes 0 fuel rfl (by omega) (fuel_big (by omega))
theorem redeems_true (secret : Str) (n : Int) (codes : List Str) (hc : fits codes) : law23_OtpRedeems secret n codes = some true := by
  unfold law23_OtpRedeems
  by_cases h : ((secret.length : Int) > 300)
  · simp [h, alive23]
  · have hf : fits secret := by unfold fits; omega
    have hmid : mid secret := by unfold mid; omega
    rcases short_gate codes hc with g | ⟨g, g2⟩
    · simp [h, g, alive23]
    · simp only [h, decide_false, Bool.false_eq_true, if_false, g, Option.bind_some, Bool.not_true]
      by_cases hn : (decide (n ≥ 1) && decide (n < 16)) = true
      · have hn' := hn
        simp at hn'
        obtain ⟨m, rfl⟩ : ∃ m : Nat, n = m := ⟨n.toNat, by omega⟩
        have e1 : IntKind.i64.wrap ((m : Int) + 1) = ((m + 1 : Nat) : Int) := w64n (by omega)
        have hm2 : mid ([114, 101, 99, 111, 118, 101, 114, 121, 48] : Str) := by unfold mid; simp
        simp only [hn, if_true, otp_Recovery_eq secret _ hf, e1, digest_Mac_eq secret _ hmid hm2, Option.bind_some]
        cases hcl : clean secret with
        | false => simp [recR, hcl, redeems_loop codes g2]
        | true =>
          have r1 : recR secret (m : Int) = (recL secret m, 0) := by simp [recR, hcl, show ¬ ((m : Int) < 1) by omega, show ¬ (16 < (m : Int)) by omega]
          have r2 : recR secret ((m + 1 : Nat) : Int) = (recL secret (m + 1), 0) := by
            simp only [recR, hcl, if_true]
            rw [if_neg (by simp; omega)]
            simp
          have hcut : cut (recL secret (m + 1)) 0 (m : Int) = recL secret m := by rw [cut_0, recL_succ, List.take_left' (recL_len _ _)]
          have hinc : inc 0 (m : Int) ((recL secret (m + 1)).length : Nat) = true := by rw [recL_len, inc_0]; simp
          have hml := macS_len secret [114, 101, 99, 111, 118, 101, 114, 121, 48]
          have hi0 : (recL secret m)[0]? = some (recC secret 0) := by
            obtain ⟨k, rfl⟩ : ∃ k, m = k + 1 := ⟨m - 1, by omega⟩
            simp [recL, List.range_succ_eq_map]
          have hr0 : recC secret 0 = cut (macS secret [114, 101, 99, 111, 118, 101, 114, 121, 48]) 0 10 := by
            have : Lib.decDigits 0 = [48] := dec_small (by omega)
            simp [recC, this, cut]
          have hidx : idx (recL secret m) 0 = some (recC secret 0) := by rw [show (0 : Int) = ((0 : Nat) : Int) from rfl, idx_n]; exact hi0
          have hi10 : inc 0 10 ((macS secret [114, 101, 99, 111, 118, 101, 114, 121, 48]).length : Nat) = true := by rw [hml]; rfl
          have h10 : decide ((((macS secret [114, 101, 99, 111, 118, 101, 114, 121, 48]).length : Nat) : Int) < 10) = false := by rw [hml]; rfl
          have hfl : fits (recL secret m) := by unfold fits; rw [recL_len]; omega
          have q1 : ((((recL secret m).length : Nat) : Int) != (m : Int)) = false := by rw [recL_len]; simp
          have q2 : ((((recL secret (m + 1)).length : Nat) : Int) != ((m + 1 : Nat) : Int)) = false := by rw [recL_len]; simp
          simp only [r1, r2, bne_self_eq_false, Bool.false_eq_true, if_false, beq_self_eq_true, if_true, q1, q2, Bool.or_self, hinc, chk_true, hcut, ref07_Lists_eq _ _ hfl, Option.bind_some, Bool.not_true, h10, hidx, hi10, ← hr0, redeems_loop codes g2]
      · simp only [Bool.not_eq_true] at hn
        simp only [hn, Bool.false_eq_true, if_false, redeems_loop codes g2]
end Go.KW.S
