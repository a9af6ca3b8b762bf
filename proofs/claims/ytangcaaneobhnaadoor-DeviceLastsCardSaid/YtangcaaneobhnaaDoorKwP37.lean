/- Own work: a part of the proofs of this seat. -/
import Derived.Test.YtangcaaneobhnaaDoorKwPlain
import Derived.Test.YtangcaaneobhnaaDoorKwMapP
import Derived.Test.YtangcaaneobhnaaDoorKwG2S
import Derived.KernelRfl
import Derived.Laws.RangeString
import Derived.Laws.RangeAny
set_option linter.unusedVariables false
set_option linter.unusedSimpArgs false
namespace Go.KW.S
open Go Go.KW
/-! ### words -/
def isW (c : Int) : Bool := (((decide (c ≥ 65) && decide (c ≤ 90)) || (decide (c ≥ 97) && decide (c ≤ 122))) || (decide (c ≥ 48) && decide (c ≤ 57))) || c == 45 || c == 95 || c == 46 || c == 58
def word (s : Str) : Bool := s.all (fun u => isW u.toNat) && (decide (1 ≤ s.length) && decide (s.length ≤ 64))
theorem fold_Word_1_eq (c : Int) : fold_Word_1 c = some (isW c) := by
  simp only [fold_Word_1, fold_letter, fold_upper, fold_digit, isW, Option.bind_some]
  cases (decide (c ≥ 65) && decide (c ≤ 90)) <;> cases (decide (c ≥ 97) && decide (c ≤ 122)) <;> simp
theorem fold_made_eq (s : Str) (hs : fits s) : fold_made__Word_1 s = some (word s) := by
  have key : ∀ (r : Str) (i n : Nat), s.drop i = r → i ≤ s.length → r.length < n →
      fold_made__Word_1_L1 n s (s.length : Int) (i : Int) = some (r.all (fun u => isW u.toNat) && (decide (1 ≤ s.length) && decide (s.length ≤ 64))) := by
    intro r
    induction r with
    | nil =>
      intro i n hd hi hn
      obtain ⟨n, rfl⟩ : ∃ k, n = k + 1 := ⟨n - 1, by simp at hn; omega⟩
      have := drop_nil hd
      simp only [fold_made__Word_1_L1, show ¬ ((i : Int) < s.length) by omega, decide_false, Bool.false_eq_true, if_false, List.all_nil, Bool.true_and, Option.some.injEq]
      rw [Bool.eq_iff_iff]; cases s <;> simp <;> omega
    | cons u r ih =>
      intro i n hd hi hn
      obtain ⟨n, rfl⟩ : ∃ k, n = k + 1 := ⟨n - 1, by simp at hn; omega⟩
      obtain ⟨h1, h2, h3⟩ := drop_more hd
      have hlt := drop_lt hd
      have := hs; unfold fits at this
      simp only [fold_made__Word_1_L1, show ((i : Int) < s.length) by omega, decide_true, if_true, inb_n, h1, chk_true, byteAt_some h2, fold_Word_1_eq, Option.bind_some, w64n (show i < 9223372036854775807 by omega), List.all_cons]
      cases isW u.toNat with
      | false => simp
      | true => simpa using ih (i + 1) n h3 (by omega) (by simp at hn; omega)
  exact key s 0 fuel rfl (by omega) (fuel_pos hs)
theorem fold_Word_eq (s : Str) (hs : fits s) : fold_Word s = some (word s) := by
  simp [fold_Word, fold_made_eq s hs]
/-! ### values: printable strings -/
def prt (u : UInt8) : Bool := decide (32 ≤ u.toNat) && decide (u.toNat ≤ 126)
def clean (s : Str) : Bool := s.all prt && (decide (1 ≤ s.length) && decide (s.length ≤ 256)) && (!(s.head? == some 32) && !(s.getLast? == some 32))
theorem dw_len (p : UInt8 → Bool) (l : Str) : (l.dropWhile p).length ≤ l.length := (List.dropWhile_suffix p).length_le
theorem trimB_eq (s : Str) : ((Lib.trimB s 32 == s) = (!(s.head? == some 32) && !(s.getLast? == some 32))) ∨ s = [] := by
  cases s with
  | nil => exact .inr rfl
  | cons a r =>
    refine .inl ?_
    rw [Bool.eq_iff_iff]
    simp only [beq_iff_eq, Bool.and_eq_true, Bool.not_eq_true', beq_eq_false_iff_ne, ne_eq]
    have hr : ∀ l : Str, (Lib.trimRightB l 32).length ≤ l.length := fun l => by
      unfold Lib.trimRightB
      rw [List.length_reverse]
      exact Nat.le_trans (dw_len _ _) (by simp)
    have hl : ∀ l : Str, (Lib.trimLeftB l 32).length ≤ l.length := fun l => dw_len _ _
    constructor
    · intro h
      have h1 : (Lib.trimRightB (a :: r) 32).length = (a :: r).length := by
        have e := congrArg List.length h
        unfold Lib.trimB at e
        have := hr (a :: r); have := hl (Lib.trimRightB (a :: r) 32)
        omega
      have h2 : Lib.trimRightB (a :: r) 32 = a :: r := by
        unfold Lib.trimRightB at h1 ⊢
        rw [List.length_reverse] at h1
        have hs := List.dropWhile_suffix (fun x : UInt8 => x == 32) (l := (a :: r).reverse)
        have := hs.eq_of_length (by rw [h1]; simp)
        rw [this, List.reverse_reverse]
      unfold Lib.trimB at h
      rw [h2] at h
      refine ⟨fun e => ?_, fun e => ?_⟩
      · simp at e
        subst e
        unfold Lib.trimLeftB at h
        have e2 := congrArg List.length h
        simp only [List.dropWhile_cons, beq_self_eq_true, if_true] at e2
        have := dw_len (fun x : UInt8 => x == 32) r
        simp at e2; omega
      · unfold Lib.trimRightB at h2
        have e3 : (a :: r).reverse.dropWhile (fun x => x == 32) = (a :: r).reverse := by rw [← List.reverse_reverse ((a :: r).reverse.dropWhile fun x => x == 32), h2]
        rw [List.getLast?_eq_head?_reverse] at e
        cases hrv : (a :: r).reverse with
        | nil => simp at hrv
        | cons b q =>
          rw [hrv] at e e3
          simp at e
          subst e
          have e2 := congrArg List.length e3
          simp only [List.dropWhile_cons, beq_self_eq_true, if_true] at e2
          have := dw_len (fun x : UInt8 => x == 32) q
          simp at e2; omega
    · rintro ⟨h1, h2⟩
      have e1 : Lib.trimRightB (a :: r) 32 = a :: r := by
        unfold Lib.trimRightB
        rw [List.getLast?_eq_head?_reverse] at h2
        cases hrv : (a :: r).reverse with
        | nil => simp at hrv
        | cons b q =>
          rw [hrv] at h2
          have hb : (b == 32) = false := by simpa using h2
          rw [List.dropWhile_cons, hb]
          simp only [Bool.false_eq_true, if_false]
          rw [← hrv, List.reverse_reverse]
      unfold Lib.trimB
      rw [e1]
      have ha : (a == 32) = false := by simpa using h1
      simp [Lib.trimLeftB, List.dropWhile_cons, ha]
theorem sdec_low {s : Str} {p : Nat} {u : UInt8} (h : s[p]? = some u) (hu : u.toNat < 128) : sdec s p = ((u.toNat : Int), 1) := by
  obtain ⟨h1, h2⟩ := List.getElem?_eq_some_iff.1 h
  have hs : p < (⟨s.toArray⟩ : ByteArray).size := by rw [str_size]; exact h1
  have hget : (⟨s.toArray⟩ : ByteArray)[p]'hs = u := by rw [← h2]; rfl
  have := decode_ascii ⟨s.toArray⟩ p hs (by rw [hget]; exact hu)
  unfold sdec
  rw [this, hget]
theorem sdec_high {s : Str} {p : Nat} {u : UInt8} (h : s[p]? = some u) (hu : 128 ≤ u.toNat) : 128 ≤ (sdec s p).1 := by
  obtain ⟨h1, h2⟩ := List.getElem?_eq_some_iff.1 h
  have hs : p < (⟨s.toArray⟩ : ByteArray).size := by rw [str_size]; exact h1
  have hget : (⟨s.toArray⟩ : ByteArray)[p]'hs = u := by rw [← h2]; rfl
  have := (decode_high ⟨s.toArray⟩ p hs (by rw [hget]; exact hu)).1
  unfold sdec
  show (128 : Int) ≤ (((Utf8.decode ⟨s.toArray⟩ p).1 : Nat) : Int)
  omega
theorem fold_Trim_eq (s : Str) (hs : fits s) : fold_Trim s = some (Lib.trimB s 32) := by
  unfold fits at hs
  simp [fold_Trim, lib_Trim, chk, show s.length ≤ 9223372036854775807 by omega]
theorem fold_Clean_eq (s : Str) (hs : fits s) : fold_Clean s = some (clean s) := by
  have fin : Option.bind (if (!(s == ([] : Str))) && (decide ((s.length : Int) ≤ 256)) then (fold_Trim s).bind fun y33 => some (y33 == s) else some false) (fun z28 => some z28) =
      some ((decide (1 ≤ s.length) && decide (s.length ≤ 256)) && (!(s.head? == some 32) && !(s.getLast? == some 32))) := by
    rw [fold_Trim_eq s hs]
    rcases trimB_eq s with h | h
    · simp only [Option.bind_some, h]
      cases s with
      | nil => simp
      | cons a r =>
        have e1 : (!(a :: r == ([] : Str))) = true := rfl
        have e2 : decide ((((a :: r).length : Nat) : Int) ≤ 256) = decide ((a :: r).length ≤ 256) := by rw [decide_eq_decide]; omega
        have e3 : decide (1 ≤ (a :: r).length) = true := by simp
        rw [e1, e2, e3]
        cases decide ((a :: r).length ≤ 256) <;> simp
    · subst h; simp
  have key : ∀ (r : Str) (i n : Nat), s.drop i = r → i ≤ s.length → r.length < n →
      fold_Clean_L1 n s s i = some (r.all prt && ((decide (1 ≤ s.length) && decide (s.length ≤ 256)) && (!(s.head? == some 32) && !(s.getLast? == some 32)))) := by
    intro r
    induction r with
    | nil =>
      intro i n hd hi hn
      obtain ⟨n, rfl⟩ : ∃ k, n = k + 1 := ⟨n - 1, by simp at hn; omega⟩
      have := drop_nil hd
      simp only [fold_Clean_L1, show ¬ (i < s.length) by omega, decide_false, Bool.false_eq_true, if_false, List.all_nil, Bool.true_and]
      exact fin
    | cons u r ih =>
      intro i n hd hi hn
      obtain ⟨n, rfl⟩ : ∃ k, n = k + 1 := ⟨n - 1, by simp at hn; omega⟩
      obtain ⟨h1, h2, h3⟩ := drop_more hd
      have hlt := drop_lt hd
      have hih := ih (i + 1) n h3 (by omega) (by simp at hn; omega)
      simp only [fold_Clean_L1, hlt, decide_true, if_true, List.all_cons]
      by_cases hu : u.toNat < 128
      · rw [sdec_low h2 hu]
        cases hp : prt u with
        | true =>
          simp only [prt, Bool.and_eq_true, decide_eq_true_eq] at hp
          have e1 : ¬ ((u.toNat : Int) < 32) := by omega
          have e2 : ¬ ((u.toNat : Int) > 126) := by omega
          simp only [e1, e2, decide_false, Bool.or_self, Bool.false_eq_true, if_false, Bool.true_and]
          exact hih
        | false =>
          have : (u.toNat : Int) < 32 ∨ (u.toNat : Int) > 126 := by
            simp only [prt, Bool.and_eq_false_iff, decide_eq_false_iff_not] at hp
            omega
          have e : (decide ((u.toNat : Int) < 32) || decide ((u.toNat : Int) > 126)) = true := by simpa using this
          simp only [e, if_true, Bool.false_and]
      · have hh := sdec_high h2 (by omega)
        have e : decide ((sdec s i).1 > 126) = true := by simp; omega
        have hp : prt u = false := by simp [prt]; omega
        simp only [e, Bool.or_true, if_true, hp, Bool.false_and]
  have := key s 0 fuel rfl (by omega) (fuel_pos hs)
  rw [fold_Clean, this]
  simp [clean, Bool.and_assoc]
/-! ### decimals -/
theorem dec_small {m : Nat} (h : m < 10) : Lib.decDigits m = [UInt8.ofNat (48 + m)] := by rw [Lib.decDigits, dif_pos h]
theorem dec_big {m : Nat} (h : ¬ m < 10) : Lib.decDigits m = Lib.decDigits (m / 10) ++ [UInt8.ofNat (48 + m % 10)] := by rw [Lib.decDigits, dif_neg h]
theorem dec_len : ∀ (k m : Nat), m < 10 ^ k → 1 ≤ k → (Lib.decDigits m).length ≤ k
  | 0, _, _, h => by omega
  | k + 1, m, h, _ => by
    by_cases h10 : m < 10
    · rw [dec_small h10]; simp
    · rw [dec_big h10]
      have hk : 1 ≤ k := by
        cases k with
        | zero => simp at h; omega
        | succ k => omega
      have := dec_len k (m / 10) (by rw [Nat.div_lt_iff_lt_mul (by omega)]; rw [Nat.pow_succ] at h; exact h) hk
      simp; omega
/-- the digits, none of nought -/
def dd (m : Nat) : Str := if m = 0 then [] else Lib.decDigits m
theorem dd_step {m : Nat} (h : m ≠ 0) : dd m = dd (m / 10) ++ [UInt8.ofNat (48 + m % 10)] := by
  unfold dd
  rw [if_neg h]
  by_cases h10 : m < 10
  · rw [dec_small h10, if_pos (by omega), Nat.mod_eq_of_lt h10]; rfl
  · rw [dec_big h10, if_neg (by omega)]
theorem chr_all : ∀ d : Nat, d < 10 → bytesStr ([IntKind.u8.wrap (IntKind.i64.wrap (48 + (d : Int)))] : List Int) = [UInt8.ofNat (48 + d)] := by decide
theorem chr_eq {d : Nat} (h : d < 10) : bytesStr ([IntKind.u8.wrap (IntKind.i64.wrap (48 + (d : Int)))] : List Int) = [UInt8.ofNat (48 + d)] := chr_all d h
theorem tmod10 (a : Nat) : Int.tmod (a : Int) 10 = ((a % 10 : Nat) : Int) := by rw [Int.tmod_eq_emod_of_nonneg (by omega)]; omega
theorem tdiv10 (a : Nat) : (a : Int).tdiv 10 = ((a / 10 : Nat) : Int) := by rw [Int.tdiv_eq_ediv_of_nonneg (by omega)]; omega
theorem ref02_loop : ∀ (k m n : Nat) (out : Str) (n0 : Int), 0 ≤ n0 → m < 10 ^ k → m < 9223372036854775808 → out.length + k ≤ 100 → k < n → ref02_Int_L1 n n0 out (m : Int) = some (dd m ++ out) := by
  intro k
  induction k with
  | zero =>
    intro m n out n0 h0 hm _ _ hn
    obtain ⟨n, rfl⟩ : ∃ k, n = k + 1 := ⟨n - 1, by omega⟩
    have : m = 0 := by simpa using hm
    subst this
    simp [ref02_Int_L1, dd, show ¬ n0 < 0 by omega]
  | succ k ih =>
    intro m n out n0 h0 hm h63 hl hn
    obtain ⟨n, rfl⟩ : ∃ k, n = k + 1 := ⟨n - 1, by omega⟩
    by_cases hz : m = 0
    · subst hz
      simp [ref02_Int_L1, dd, show ¬ n0 < 0 by omega]
    · have e1 : ((m : Int) != 0) = true := by simp; omega
      have e2 : Int.tmod (m : Int) 10 = ((m % 10 : Nat) : Int) := by rw [Int.tmod_eq_emod_of_nonneg (by omega)]; omega
      have e3 : (m : Int).tdiv 10 = ((m / 10 : Nat) : Int) := by rw [Int.tdiv_eq_ediv_of_nonneg (by omega)]; omega
      have e4 : ¬ (((m % 10 : Nat) : Int) < 0) := by omega
      have e5 : IntKind.i64.wrap ((m / 10 : Nat) : Int) = ((m / 10 : Nat) : Int) := w64 (by omega) (by omega)
      have h10 : m % 10 < 10 := Nat.mod_lt _ (by omega)
      have hf : fitS [UInt8.ofNat (48 + m % 10)] out = true := by simp [fitS]; omega
      have hd : m / 10 < 10 ^ k := by rw [Nat.div_lt_iff_lt_mul (by omega)]; rw [Nat.pow_succ] at hm; exact hm
      simp only [ref02_Int_L1, e1, if_true, e2, e4, decide_false, Bool.false_eq_true, if_false, ref02_Int_B2, chr_eq h10, hf, chk_true, e3, e5]
      rw [ih (m / 10) n _ n0 h0 hd (by omega) (by simp; omega) (by omega), dd_step hz]
      simp
theorem ref02_Int_eq (m : Nat) (h : m < 9223372036854775808) : ref02_Int (m : Int) = some (Lib.decDigits m) := by
  unfold ref02_Int
  by_cases hz : m = 0
  · subst hz; simp [dec_small]
  · have e1 : ((m : Int) == 0) = false := by simp; omega
    rw [e1]
    have := ref02_loop 20 m fuel [] (m : Int) (by omega) (by omega) h (by simp) (by unfold fuel; omega)
    simp only [Bool.false_eq_true, if_false, this, List.append_nil]
    unfold dd
    rw [if_neg hz]
theorem lib_Itoa_eq (m : Nat) (h : m < 9223372036854775808) : lib_Itoa (m : Int) = some (Lib.decDigits m) := by
  unfold lib_Itoa
  rw [chk_t (by simp; omega), itoaS_eq (by omega) (by omega)]
  unfold Lib.itoa
  rw [if_neg (by omega)]
  simp
theorem codec_Int_eq (m : Nat) (h : m < 9223372036854775808) : codec_Int (m : Int) = some (Lib.decDigits m) := by simp [codec_Int, lib_Itoa_eq m h]
/-! ### digests, without the reference -/
theorem wrap_u64_range (x : Int) : 0 ≤ IntKind.u64.wrap x ∧ IntKind.u64.wrap x < 18446744073709551616 := by
  simp [IntKind.wrap, IntKind.bits, IntKind.signed]; omega
theorem bXor_range (a b : Int) : 0 ≤ bXor .u64 a b ∧ bXor .u64 a b < 18446744073709551616 := wrap_u64_range _
def sumL : Int → Str → Int
  | h, [] => h
  | h, u :: r => sumL (IntKind.u64.wrap ((bXor .u64 h (IntKind.u64.wrap (u.toNat : Int))) * 1099511628211)) r
def sumF (h : Int) : Int := bXor .u64 (IntKind.u64.wrap ((bXor .u64 (IntKind.u64.wrap ((bXor .u64 h (bShr .u64 h 33)) * 18397679294719823053)) (bShr .u64 (IntKind.u64.wrap ((bXor .u64 h (bShr .u64 h 33)) * 18397679294719823053)) 33)) * 14181476777654086739)) (bShr .u64 (IntKind.u64.wrap ((bXor .u64 (IntKind.u64.wrap ((bXor .u64 h (bShr .u64 h 33)) * 18397679294719823053)) (bShr .u64 (IntKind.u64.wrap ((bXor .u64 h (bShr .u64 h 33)) * 18397679294719823053)) 33)) * 14181476777654086739)) 33)
/-- the digest of a string -/
def sumS (s : Str) : Nat := (sumF (sumL 14695981039346656037 s)).toNat
theorem sumF_range (h : Int) : 0 ≤ sumF h ∧ sumF h < 18446744073709551616 := bXor_range _ _
theorem sumS_lt (s : Str) : sumS s < 18446744073709551616 := by have := sumF_range (sumL 14695981039346656037 s); unfold sumS; omega
theorem sumS_int (s : Str) : (sumS s : Int) = sumF (sumL 14695981039346656037 s) := Int.toNat_of_nonneg (sumF_range _).1
theorem dsum_loop (s : Str) (hs : fits s) : ∀ (r : Str) (i n : Nat) (h : Int), s.drop i = r → i ≤ s.length → r.length < n →
    digest_Sum_L1 n s h (s.length : Int) (i : Int) = some (sumF (sumL h r)) := by
  unfold fits at hs
  intro r
  induction r with
  | nil =>
    intro i n h hd hi hn
    obtain ⟨n, rfl⟩ : ∃ k, n = k + 1 := ⟨n - 1, by simp at hn; omega⟩
    have := drop_nil hd
    simp only [digest_Sum_L1, show ¬ ((i : Int) < s.length) by omega, decide_false, Bool.false_eq_true, if_false]
    rfl
  | cons u r ih =>
    intro i n h hd hi hn
    obtain ⟨n, rfl⟩ : ∃ k, n = k + 1 := ⟨n - 1, by simp at hn; omega⟩
    obtain ⟨h1, h2, h3⟩ := drop_more hd
    have hlt := drop_lt hd
    simp only [digest_Sum_L1, show ((i : Int) < s.length) by omega, decide_true, if_true, inb_n, h1, chk_true, w64n (show i < 9223372036854775807 by omega), byteAt_some h2, sumL]
    exact ih (i + 1) n _ h3 (by omega) (by simp at hn; omega)
theorem digest_Sum_eq (s : Str) (hs : fits s) : digest_Sum s = some (sumS s : Int) := by
  rw [sumS_int]; exact dsum_loop s hs s 0 fuel _ rfl (by omega) (fuel_pos hs)
/-- a hexadecimal digit -/
def hexd (m : Nat) : UInt8 := if m < 10 then UInt8.ofNat (48 + m) else UInt8.ofNat (87 + m)
def hexL : Nat → Nat → Str
  | 0, _ => []
  | t + 1, m => hexd (m / 16 ^ t % 16) :: hexL t m
def hexS (m : Nat) : Str := hexL 16 m
theorem hexL_len : ∀ t m, (hexL t m).length = t
  | 0, _ => rfl
  | t + 1, m => by simp [hexL, hexL_len t m]
theorem hex_tab : ∀ j : Nat, j < 16 → tab_digest_digits[j]? = some ((hexd j).toNat : Int) := by decide
theorem bAnd15 (x : Nat) (hx : x < 18446744073709551616) : bAnd .u64 (x : Int) 15 = ((x % 16 : Nat) : Int) := by
  unfold bAnd
  have e1 : (BitVec.ofInt 64 (x : Int)) = BitVec.ofNat 64 x := by simp
  have e2 : (BitVec.ofInt 64 (15 : Int)) = BitVec.ofNat 64 15 := rfl
  show IntKind.u64.wrap (((BitVec.ofInt 64 (x : Int) &&& BitVec.ofInt 64 15).toNat : Nat) : Int) = _
  rw [e1, e2, BitVec.toNat_and, BitVec.toNat_ofNat, BitVec.toNat_ofNat, Nat.mod_eq_of_lt hx]
  have e3 : x &&& (15 % 2 ^ 64) = x % 16 := Nat.and_two_pow_sub_one_eq_mod x 4
  rw [e3, wu64 (by omega) (by have := Nat.mod_lt x (show 16 > 0 by omega); omega)]
theorem bShr4 (x t : Nat) (ht : t < 16) : bShr .u64 (x : Int) ((4 * t : Nat) : Int) = ((x / 16 ^ t : Nat) : Int) := by
  unfold bShr
  have e1 : min (((4 * t : Nat) : Int).toNat) (IntKind.u64.bits) = 4 * t := by simp [IntKind.bits]; omega
  rw [e1, Int.fdiv_eq_ediv_of_nonneg _ (Int.le_of_lt (Int.pow_pos (by omega)))]
  rw [show (2 : Int) ^ (4 * t) = ((16 ^ t : Nat) : Int) by rw [Int.pow_mul]; simp]
  simp
theorem Hex_loop (m : Nat) (hm : m < 18446744073709551616) : ∀ (k t n : Nat), t + k = 16 → k < n →
    digest_Hex_L1 n (m : Int) (List.replicate (16 - t) 0 ++ (hexL t m).map fun u => (u.toNat : Int)) (t : Int) = some (hexS m) := by
  intro k
  induction k with
  | zero =>
    intro t n ht hn
    obtain ⟨n, rfl⟩ : ∃ k, n = k + 1 := ⟨n - 1, by omega⟩
    have : t = 16 := by omega
    subst this
    have hb : bytesStr ((hexL 16 m).map fun u => (u.toNat : Int)) = hexL 16 m := by
      unfold bytesStr
      rw [List.map_map]
      exact List.map_id'' (fun u => by simp) _
    simp [digest_Hex_L1, hexL_len, chk, hb, hexS]
  | succ k ih =>
    intro t n ht hn
    obtain ⟨n, rfl⟩ : ∃ k, n = k + 1 := ⟨n - 1, by omega⟩
    have hx : m / 16 ^ t < 18446744073709551616 := Nat.lt_of_le_of_lt (Nat.div_le_self _ _) hm
    have e1 : IntKind.i64.wrap (4 * (t : Int)) = ((4 * t : Nat) : Int) := by rw [w64 (by omega) (by omega)]; omega
    have e2 : bAnd .u64 (bShr .u64 (m : Int) ((4 * t : Nat) : Int)) 15 = ((m / 16 ^ t % 16 : Nat) : Int) := by rw [bShr4 m t (by omega), bAnd15 _ hx]
    have h16 : m / 16 ^ t % 16 < 16 := Nat.mod_lt _ (by omega)
    have e3 : IntKind.i64.wrap (15 - (t : Int)) = ((15 - t : Nat) : Int) := by rw [w64 (by omega) (by omega)]; omega
    have hlen : (List.replicate (16 - t) (0 : Int) ++ (hexL t m).map fun u => (u.toNat : Int)).length = 16 := by simp [hexL_len]; omega
    have e4 : setAt (List.replicate (16 - t) (0 : Int) ++ (hexL t m).map fun u => (u.toNat : Int)) ((15 - t : Nat) : Int) ((hexd (m / 16 ^ t % 16)).toNat : Int) =
        List.replicate (16 - (t + 1)) (0 : Int) ++ (hexL (t + 1) m).map fun u => (u.toNat : Int) := by
      unfold setAt
      rw [Int.toNat_natCast, show 16 - t = (15 - t) + 1 by omega, List.replicate_succ', List.append_assoc, List.set_append_right _ _ (by simp)]
      simp [hexL, show 16 - (t + 1) = 15 - t by omega]
    have e5 : inb ((m / 16 ^ t % 16 : Nat) : Int) 16 = true := by rw [inb_iff]; omega
    have e6 : inb ((15 - t : Nat) : Int) 16 = true := by rw [inb_iff]; omega
    have e7 : inb ((15 - t : Nat) : Int) ((List.replicate (16 - t) (0 : Int) ++ (hexL t m).map fun u => (u.toNat : Int)).length : Nat) = true := by rw [hlen, inb_iff]; omega
    simp only [digest_Hex_L1, show ((t : Int) < 16) by omega, decide_true, if_true, e1, show (0 : Int) ≤ ((4 * t : Nat) : Int) by omega, chk_true, e2, e5, idx_n, hex_tab _ h16, Option.bind_some, e3, e6, e7, e4, w64n (show t < 9223372036854775807 by omega)]
    exact ih (t + 1) n (by omega) (by omega)
theorem digest_Hex_eq (m : Nat) (hm : m < 18446744073709551616) : digest_Hex (m : Int) = some (hexS m) := Hex_loop m hm 16 0 fuel rfl (by unfold fuel; omega)
/-- the hexadecimal digest -/
def textS (s : Str) : Str := hexS (sumS s)
theorem textS_len (s : Str) : (textS s).length = 16 := hexL_len _ _
theorem digest_Text_eq (s : Str) (hs : fits s) : digest_Text s = some (textS s) := by
  unfold textS digest_Text
  rw [digest_Sum_eq s hs, Option.bind_some, digest_Hex_eq (sumS s) (sumS_lt s), Option.bind_some]
/-- the authentication code -/
def macS (key s : Str) : Str := textS (Lib.decDigits key.length ++ [58] ++ key ++ textS (Lib.decDigits key.length ++ [58] ++ key ++ s))
theorem macS_len (key s : Str) : (macS key s).length = 16 := textS_len _
/-- short enough that sums of them are in range -/
def mid (s : Str) : Prop := s.length ≤ 1099511627776
theorem mac_fits (key s : Str) (hk : mid key) (hs : mid s) : (Lib.decDigits key.length).length ≤ 20 := by unfold mid at hk; exact dec_len 20 _ (by omega) (by omega)
theorem digest_Mac_eq (key s : Str) (hk : mid key) (hs : mid s) : digest_Mac key s = some (macS key s) := by
  have h1 := mac_fits key s hk hs
  unfold mid at hk hs
  have f1 : fitS (Lib.decDigits key.length) [58] = true := by simp [fitS]; omega
  have f2 : fitS (Lib.decDigits key.length ++ [58]) key = true := by simp [fitS]; omega
  have f3 : fitS (Lib.decDigits key.length ++ [58] ++ key) s = true := by simp [fitS]; omega
  have f4 : fitS (Lib.decDigits key.length ++ [58] ++ key) (textS (Lib.decDigits key.length ++ [58] ++ key ++ s)) = true := by simp [fitS, textS_len]; omega
  unfold digest_Mac
  simp only [lib_Itoa_eq key.length (by omega), Option.bind_some, f1, f2, f3, chk_true, digest_Text_eq (Lib.decDigits key.length ++ [58] ++ key ++ s) (by unfold fits; simp; omega), f4,
    digest_Text_eq (Lib.decDigits key.length ++ [58] ++ key ++ textS (Lib.decDigits key.length ++ [58] ++ key ++ s)) (by unfold fits; simp [textS_len]; omega), macS]
/-- an instant by Rule 6 -/
def lim (t : Int) : Int := gmin (gmax t 0) 1099511627776
theorem lim_range (t : Int) : 0 ≤ lim t ∧ lim t ≤ 1099511627776 := by unfold lim gmin gmax; split <;> split <;> omega
theorem lim_eq (t : Int) : gmax 0 (gmin t 1099511627776) = lim t := by unfold lim gmin gmax; repeat' split <;> omega
theorem lim_val (t : Int) : lim t = if t < 0 then 0 else if t > 1099511627776 then 1099511627776 else t := by unfold lim gmin gmax; repeat' split <;> omega
theorem lim_lim (a : Int) : lim (lim a) = lim a := by have := lim_range a; rw [lim_val (lim a)]; split <;> (try split) <;> omega
theorem lim_0 : lim 0 = 0 := rfl
theorem gmax_ge {a b : Int} : a ≤ gmax a b ∧ b ≤ gmax a b ∧ (gmax a b = a ∨ gmax a b = b) := by unfold gmax; split <;> omega
theorem gmin_le {a b : Int} : gmin a b ≤ a ∧ gmin a b ≤ b ∧ (gmin a b = a ∨ gmin a b = b) := by unfold gmin; split <;> omega
theorem fuel_big {n : Nat} (h : n < 9223372036854775808) : n < fuel := by unfold fuel; omega
/-! ### devices -/
theorem live37 : law37_live = some true := by kernel_rfl
theorem device_limited_eq (t : Int) : device_limited t = some (lim t) := rfl
theorem opt_cases {α : Type} (o : Option α) : o = none ∨ ∃ r, o = some r := by cases o <;> simp
abbrev DL := List (device_key × device_record)
theorem made_eq (l : DL) (g : Int) : device_Devices_made ⟨some l, g⟩ = some true := rfl
def zr : device_record := ⟨[], [], 0⟩
def findR (l : DL) (u i : Str) (now : Int) : device_record × Int :=
  match mfind ⟨u, i⟩ l with
  | none => (zr, 6)
  | some r => if lim now ≥ r.until_ then (zr, 13) else (r, 0)
theorem find_eq (l : DL) (g : Int) (u i : Str) (now : Int) : device_Devices_find ⟨some l, g⟩ u i now = some (findR l u i now) := by
  unfold device_Devices_find findR mgetD mhas
  simp only [made_eq, Option.bind_some, Bool.not_true, Bool.false_eq_true, if_false, Option.getD_some, device_limited_eq]
  rcases opt_cases (mfind (⟨u, i⟩ : device_key) l) with h | ⟨r, h⟩
  · simp only [h]; rfl
  · simp only [h, Option.isSome_some, Bool.not_true, Bool.false_eq_true, if_false, Option.getD_some]
    by_cases hr : lim now ≥ r.until_
    · rw [if_pos (decide_eq_true hr), if_pos hr]; rfl
    · rw [if_neg (by simpa using hr), if_neg hr]
def truD (l : DL) (u i : Str) (now : Int) : Bool :=
  match mfind ⟨u, i⟩ l with
  | none => false
  | some r => decide (lim now < r.until_)
theorem trusted_eq (l : DL) (g : Int) (u i : Str) (now : Int) : device_Devices_Trusted ⟨some l, g⟩ u i now = some (truD l u i now) := by
  unfold device_Devices_Trusted truD mgetD mhas
  simp only [made_eq, Option.bind_some, Bool.not_true, Bool.false_eq_true, if_false, Option.getD_some, device_limited_eq]
  rcases opt_cases (mfind (⟨u, i⟩ : device_key) l) with h | ⟨r, h⟩
  · simp only [h]; rfl
  · simp only [h]; rfl
theorem truD_find (l : DL) (u i : Str) (now : Int) : truD l u i now = ((findR l u i now).2 == 0) := by
  unfold truD findR
  cases h : mfind (⟨u, i⟩ : device_key) l with
  | none => rfl
  | some r =>
    simp only
    by_cases hr : lim now ≥ r.until_
    · rw [if_pos hr]; simp; omega
    · rw [if_neg hr]; simp; omega
/-- what a record of devices holds -/
def goodR (p : device_key × device_record) : Prop := word p.1.user = true ∧ word p.1.id = true ∧ clean p.2.secret = true ∧ (p.2.challenge = [] ∨ p.2.challenge.length = 17) ∧ 0 < p.2.until_
structure Inv (l : DL) (g : Int) (N : Nat) : Prop where
  nd : nodupK l
  len : l.length ≤ 256
  good : ∀ p ∈ l, goodR p
  g0 : 0 ≤ g
  g1 : g ≤ N
theorem Inv.mono {l : DL} {g : Int} {N M : Nat} (h : Inv l g N) (hm : N ≤ M) : Inv l g M := ⟨h.nd, h.len, h.good, h.g0, by have := h.g1; omega⟩
theorem inv_new : Inv [] 0 0 := ⟨nodupK_nil, by simp, (fun p h => by cases h), by omega, by omega⟩
theorem word_len {s : Str} (h : word s = true) : 1 ≤ s.length ∧ s.length ≤ 64 := by
  simp only [word, Bool.and_eq_true, decide_eq_true_eq] at h; exact h.2
theorem clean_len {s : Str} (h : clean s = true) : 1 ≤ s.length ∧ s.length ≤ 256 := by
  simp only [clean, Bool.and_eq_true, decide_eq_true_eq] at h; exact h.1.2
theorem find_ok {l : DL} {u i : Str} {now : Int} (h : (findR l u i now).2 = 0) : ∃ r, mfind ⟨u, i⟩ l = some r ∧ findR l u i now = (r, 0) ∧ lim now < r.until_ := by
  unfold findR at h ⊢
  cases hf : mfind (⟨u, i⟩ : device_key) l with
  | none => rw [hf] at h; cases h
  | some r =>
    rw [hf] at h
    simp only at h ⊢
    by_cases hr : lim now ≥ r.until_
    · rw [if_pos hr] at h; cases h
    · rw [if_neg hr] at h ⊢; exact ⟨r, rfl, rfl, by omega⟩
theorem find_e {l : DL} {u i : Str} {now : Int} : (findR l u i now).2 = 0 ∨ (findR l u i now).2 = 6 ∨ (findR l u i now).2 = 13 := by
  unfold findR
  cases mfind (⟨u, i⟩ : device_key) l with
  | none => simp
  | some r => simp only; split <;> simp
/-- a challenge -/
def uniqS (s : Str) (n : Nat) : Str := [117] ++ textS (Lib.decDigits n ++ [58] ++ s)
theorem uniqS_len (s : Str) (n : Nat) : (uniqS s n).length = 17 := by simp [uniqS, textS_len]
theorem uniqS_ne (s : Str) (n : Nat) : (uniqS s n == []) = false := by simp [uniqS]
theorem dec20 {n : Nat} (h : n < 1000000) : (Lib.decDigits n).length ≤ 6 := dec_len 6 n (by omega) (by omega)
theorem unique_eq (s : Str) (n : Nat) (hs : s.length ≤ 1000) (hn : n < 1000000) : proof_Unique s (n : Int) = some (uniqS s n) := by
  have h1 := dec20 hn
  unfold proof_Unique uniqS
  rw [codec_Int_eq n (by omega), Option.bind_some, chk_t (by simp [fitS]; omega), chk_t (by simp [fitS]; omega), digest_Text_eq _ (by unfold fits; simp; omega), Option.bind_some, chk_t (by simp [fitS, textS_len])]
def kk (u i : Str) : Str := (u ++ [124]) ++ i
def chalR (l : DL) (g : Int) (u i : Str) (now : Int) : Str × Int × device_Devices :=
  if (findR l u i now).2 = 0 then
    (uniqS (kk u i) (g + 1).toNat, 0, ⟨some (mputL ⟨u, i⟩ ⟨(findR l u i now).1.secret, uniqS (kk u i) (g + 1).toNat, (findR l u i now).1.until_⟩ l), g + 1⟩)
  else ([], (findR l u i now).2, ⟨some l, g⟩)
theorem challenge_eq {l : DL} {g : Int} {N : Nat} (h : Inv l g N) (hN : N < 100000) (u i : Str) (now : Int) : device_Devices_Challenge ⟨some l, g⟩ u i now = some (chalR l g u i now) := by
  unfold device_Devices_Challenge chalR
  rw [find_eq, Option.bind_some]
  by_cases he : (findR l u i now).2 = 0
  · obtain ⟨r, h1, h2, h3⟩ := find_ok he
    obtain ⟨hu, hi, _⟩ := h.good _ (mfind_mem h1)
    have hu := word_len hu
    have hi := word_len hi
    simp only at hu hi
    have g0 := h.g0
    have g1 := h.g1
    have hw : IntKind.i64.wrap (g + 1) = (((g + 1).toNat : Nat) : Int) := by rw [w64 (by omega) (by omega)]; omega
    have hg : (((g + 1).toNat : Nat) : Int) = g + 1 := by omega
    rw [if_neg (by simp [he]), if_pos he, chk_t (by simp [fitS]; omega), chk_t (by simp [fitS]; omega), hw, unique_eq _ _ (by simp; omega) (by omega), Option.bind_some, hg]
    simp only [Option.isSome_some, chk_true]
    rfl
  · rw [if_pos (by simpa using he), if_neg he]
theorem inv_put {l : DL} {g : Int} {N : Nat} (h : Inv l g N) {k : device_key} {x : device_record} (hk : (mfind k l).isSome = true ∨ l.length < 256) (hg : goodR (k, x)) : Inv (mputL k x l) g N := by
  refine ⟨nodupK_put h.nd, ?_, fun p hp => ?_, h.g0, h.g1⟩
  · rw [len_put]
    have := h.len
    rcases hk with hk | hk
    · rw [if_pos hk]; exact this
    · split <;> omega
  · rcases mem_put hp with rfl | hp
    · exact hg
    · exact h.good p hp
theorem chal_inv {l : DL} {g : Int} {N : Nat} (h : Inv l g N) (u i : Str) (now : Int) : ∃ l' g', (chalR l g u i now).2.2 = ⟨some l', g'⟩ ∧ Inv l' g' (N + 1) := by
  unfold chalR
  by_cases he : (findR l u i now).2 = 0
  · obtain ⟨r, h1, h2, h3⟩ := find_ok he
    obtain ⟨a1, a2, a3, a4, a5⟩ := h.good _ (mfind_mem h1)
    rw [if_pos he]
    refine ⟨_, _, rfl, ?_⟩
    have := inv_put h (k := ⟨u, i⟩) (x := ⟨(findR l u i now).1.secret, uniqS (kk u i) (g + 1).toNat, (findR l u i now).1.until_⟩) (.inl (by rw [h1]; rfl)) ⟨a1, a2, by rw [h2]; exact a3, .inr (uniqS_len _ _), by rw [h2]; exact a5⟩
    exact ⟨this.nd, this.len, this.good, by have := h.g0; omega, by have := h.g1; omega⟩
  · rw [if_neg he]; exact ⟨l, g, rfl, h.mono (by omega)⟩
/-- an answer -/
theorem answer_eq (a b : Str) (ha : mid a) (hb : mid b) : device_Answer a b = some (macS a b) := by
  unfold device_Answer; rw [digest_Mac_eq a b ha hb]; rfl
def provR (l : DL) (g : Int) (u i a : Str) (now : Int) : Int × device_Devices :=
  if (findR l u i now).2 = 0 then
    if (findR l u i now).1.challenge = [] then (12, ⟨some l, g⟩)
    else (if a == macS (findR l u i now).1.secret (findR l u i now).1.challenge then 0 else 11, ⟨some (mputL ⟨u, i⟩ ⟨(findR l u i now).1.secret, [], (findR l u i now).1.until_⟩ l), g⟩)
  else ((findR l u i now).2, ⟨some l, g⟩)
theorem prove_eq {l : DL} {g : Int} {N : Nat} (h : Inv l g N) (u i a : Str) (now : Int) : device_Devices_Prove ⟨some l, g⟩ u i a now = some (provR l g u i a now) := by
  unfold device_Devices_Prove provR
  rw [find_eq, Option.bind_some]
  by_cases he : (findR l u i now).2 = 0
  · obtain ⟨r, h1, h2, h3⟩ := find_ok he
    obtain ⟨a1, a2, a3, a4, a5⟩ := h.good _ (mfind_mem h1)
    have a3 := clean_len a3
    simp only at a3 a4
    rw [if_neg (by simp [he]), if_pos he, h2]
    simp only
    by_cases hc : r.challenge = []
    · rw [if_pos (by simp [hc]), if_pos hc]
    · rw [if_neg (by simpa using hc), if_neg hc, answer_eq _ _ (by unfold mid; omega) (by unfold mid; rcases a4 with a4 | a4 <;> simp [a4]), Option.bind_some]
      simp only [Option.isSome_some, chk_true]
      cases hx : a == macS r.secret r.challenge <;> rfl
  · rw [if_pos (by simpa using he), if_neg he]
theorem prov_inv {l : DL} {g : Int} {N : Nat} (h : Inv l g N) (u i a : Str) (now : Int) : ∃ l' g', (provR l g u i a now).2 = ⟨some l', g'⟩ ∧ Inv l' g' N := by
  unfold provR
  by_cases he : (findR l u i now).2 = 0
  · obtain ⟨r, h1, h2, h3⟩ := find_ok he
    obtain ⟨a1, a2, a3, a4, a5⟩ := h.good _ (mfind_mem h1)
    rw [if_pos he]
    by_cases hc : (findR l u i now).1.challenge = []
    · rw [if_pos hc]; exact ⟨l, g, rfl, h⟩
    · rw [if_neg hc]
      exact ⟨_, _, rfl, inv_put h (.inl (by rw [h1]; rfl)) ⟨a1, a2, by rw [h2]; exact a3, .inl rfl, by rw [h2]; exact a5⟩⟩
  · rw [if_neg he]; exact ⟨l, g, rfl, h⟩
theorem mlen_some {K V : Type} (l : List (K × V)) : mlen (some l) = (l.length : Int) := by unfold mlen; simp
/-- Trust's record -/
def trR (l : DL) (u i s : Str) (un : Int) : device_record :=
  ⟨s, if ((mfind ⟨u, i⟩ l).getD zr).secret = s then ((mfind ⟨u, i⟩ l).getD zr).challenge else [], gmax ((mfind ⟨u, i⟩ l).getD zr).until_ (lim un)⟩
def trE (l : DL) (u i s : Str) (un now : Int) : Int :=
  if (!word u || !word i) then 5 else if !clean s then 4 else if lim un ≤ lim now then 13 else if (mfind (⟨u, i⟩ : device_key) l).isSome = false ∧ 256 ≤ l.length then 3 else 0
def trL (l : DL) (u i s : Str) (un : Int) : DL := if trR l u i s un = (mfind ⟨u, i⟩ l).getD zr then l else mputL ⟨u, i⟩ (trR l u i s un) l
def trustR (l : DL) (g : Int) (u i s : Str) (un now : Int) : Int × device_Devices :=
  if trE l u i s un now = 0 then (0, ⟨some (trL l u i s un), g⟩) else (trE l u i s un now, ⟨some l, g⟩)
theorem trust_B1 (l : DL) (g : Int) (u i : Str) (r n : device_record) : device_Devices_Trust_B1 ⟨some l, g⟩ u i r.secret r.challenge r.until_ n.secret n.challenge n.until_ = some (0, ⟨some (if n = r then l else mputL ⟨u, i⟩ n l), g⟩) := by
  have e : device_record.eqb (device_record.mk n.secret n.challenge n.until_) (device_record.mk r.secret r.challenge r.until_) = decide (n = r) := by
    cases n; cases r; rw [Bool.eq_iff_iff]; simp [device_record.eqb, and_assoc]
  unfold device_Devices_Trust_B1 device_Devices_Trust_B2
  rw [e]
  by_cases h : n = r
  · simp [h]
  · simp only [h, decide_false, Bool.not_false, if_true, if_false, Option.isSome_some, chk_true]; rfl
theorem trust_eq (l : DL) (g : Int) (u i s : Str) (un now : Int) (hu : fits u) (hi : fits i) (hs : fits s) : device_Devices_Trust ⟨some l, g⟩ u i s un now = some (trustR l g u i s un now) := by
  unfold device_Devices_Trust trustR trE
  simp only [device_limited_eq, Option.bind_some, made_eq, Bool.not_true, Bool.false_eq_true, if_false, fold_Word_eq u hu, fold_Word_eq i hi, fold_Clean_eq s hs]
  cases hw : word u with
  | false => rfl
  | true =>
    cases hv : word i with
    | false => rfl
    | true =>
      cases hc : clean s with
      | false => rfl
      | true =>
        simp only [Bool.not_true, Bool.false_eq_true, if_false, Option.bind_some, Bool.or_false, decide_eq_true_eq, mgetD, mhas, mlen_some, Option.getD_some]
        by_cases ht : lim un ≤ lim now
        · simp [ht]
        · simp only [ht, if_false]
          by_cases hq : (mfind (⟨u, i⟩ : device_key) l).isSome = false ∧ 256 ≤ l.length
          · have h2 : (!(mfind (⟨u, i⟩ : device_key) l).isSome && decide ((l.length : Int) ≥ 256)) = true := by
              rw [Bool.and_eq_true]; exact ⟨by simp [hq.1], decide_eq_true (by have := hq.2; omega)⟩
            rw [if_pos h2, if_pos hq]; rfl
          · have h2 : ¬ (!(mfind (⟨u, i⟩ : device_key) l).isSome && decide ((l.length : Int) ≥ 256)) = true := by
              rw [Bool.and_eq_true]; rintro ⟨a, b⟩; exact hq ⟨by simpa using a, by have := of_decide_eq_true b; omega⟩
            rw [if_neg h2, if_neg hq]
            simp only [if_true]
            show (if (((mfind (⟨u, i⟩ : device_key) l).getD zr).secret == s) = true then _ else _) = _
            unfold trL trR
            by_cases hx : ((mfind (⟨u, i⟩ : device_key) l).getD zr).secret = s
            · rw [if_pos (by simpa using hx)]
              simp only [hx, if_true]
              have := trust_B1 l g u i ((mfind (⟨u, i⟩ : device_key) l).getD zr) ⟨s, ((mfind (⟨u, i⟩ : device_key) l).getD zr).challenge, gmax ((mfind (⟨u, i⟩ : device_key) l).getD zr).until_ (lim un)⟩
              exact this
            · rw [if_neg (by simpa using hx)]
              simp only [hx, if_false]
              exact trust_B1 l g u i ((mfind (⟨u, i⟩ : device_key) l).getD zr) ⟨s, [], gmax ((mfind (⟨u, i⟩ : device_key) l).getD zr).until_ (lim un)⟩
theorem trE_ok {l : DL} {u i s : Str} {un now : Int} (h : trE l u i s un now = 0) : word u = true ∧ word i = true ∧ clean s = true ∧ lim now < lim un ∧ ((mfind (⟨u, i⟩ : device_key) l).isSome = true ∨ l.length < 256) := by
  unfold trE at h
  split at h
  · cases h
  · rename_i h1
    split at h
    · cases h
    · rename_i h2
      split at h
      · cases h
      · rename_i h3
        split at h
        · cases h
        · rename_i h4
          simp only [Bool.or_eq_true, Bool.not_eq_true', not_or, Bool.not_eq_false] at h1 h2
          refine ⟨h1.1, h1.2, h2, by omega, ?_⟩
          by_cases hq : (mfind (⟨u, i⟩ : device_key) l).isSome = true
          · exact .inl hq
          · exact .inr (Nat.lt_of_not_le fun h => h4 ⟨by simpa using hq, h⟩)
/-- behind a Trust that returns OK the device is there -/
theorem trL_find {l : DL} {u i s : Str} {un now : Int} (h : trE l u i s un now = 0) : mfind (⟨u, i⟩ : device_key) (trL l u i s un) = some (trR l u i s un) := by
  obtain ⟨h1, h2, h3, h4, h5⟩ := trE_ok h
  unfold trL
  by_cases e : trR l u i s un = (mfind ⟨u, i⟩ l).getD zr
  · rw [if_pos e]
    rcases opt_cases (mfind (⟨u, i⟩ : device_key) l) with hn | ⟨r, hr⟩
    · rw [hn] at e
      have := congrArg device_record.secret e
      simp only [trR, Option.getD_none, zr] at this
      rw [this] at h3
      cases h3
    · rw [hr] at e ⊢; rw [e]; rfl
  · rw [if_neg e, mfind_put_self]
theorem trL_ne {l : DL} {u i s : Str} {un : Int} {k : device_key} (hk : k ≠ ⟨u, i⟩) : mfind k (trL l u i s un) = mfind k l := by
  unfold trL; split
  · rfl
  · exact mfind_put_ne hk
theorem trust_inv {l : DL} {g : Int} {N : Nat} (h : Inv l g N) (u i s : Str) (un now : Int) : ∃ l', (trustR l g u i s un now).2 = ⟨some l', g⟩ ∧ Inv l' g N ∧ (l' = l ∨ ∃ x, l' = mputL ⟨u, i⟩ x l) := by
  unfold trustR
  by_cases he : trE l u i s un now = 0
  · rw [if_pos he]
    obtain ⟨h1, h2, h3, h4, h5⟩ := trE_ok he
    have hu := lim_range un
    have hn := lim_range now
    refine ⟨_, rfl, ?_⟩
    unfold trL
    by_cases e : trR l u i s un = (mfind ⟨u, i⟩ l).getD zr
    · rw [if_pos e]; exact ⟨h, .inl rfl⟩
    · rw [if_neg e]
      refine ⟨inv_put h h5 ⟨h1, h2, h3, ?_, ?_⟩, .inr ⟨_, rfl⟩⟩
      · simp only [trR]
        split
        · rcases opt_cases (mfind (⟨u, i⟩ : device_key) l) with hm | ⟨r, hr⟩
          · rw [hm]; exact .inl rfl
          · rw [hr]; exact (h.good _ (mfind_mem hr)).2.2.2.1
        · exact .inl rfl
      · have := (gmax_ge (a := ((mfind (⟨u, i⟩ : device_key) l).getD zr).until_) (b := lim un)).2.1
        simp only [trR]; omega
  · rw [if_neg he]; exact ⟨l, rfl, h, .inl rfl⟩
/-! ### List, Drop, Revoke -/
theorem sortS_congr {a b : List Str} (h : a.Perm b) : sortS a = sortS b := sorted_unique ((sortS_perm a).trans (h.trans (sortS_perm b).symm)) (sortS_sorted a) (sortS_sorted b)
theorem lib_Sort_eq {a : List Str} (h : a.length < 4611686018427387904) : lib_Sort a = some (sortS a) := by unfold lib_Sort; rw [chk_t (decide_eq_true h)]
def mineL (u : Str) (now : Int) (l : DL) : List Str := (l.filter fun p => (p.1.user == u) && decide (lim now < p.2.until_)).map (·.1.id)
theorem mineL_perm {u : Str} {now : Int} {a b : DL} (h : a.Perm b) : (mineL u now a).Perm (mineL u now b) := (h.filter _).map _
theorem mineL_len (u : Str) (now : Int) (l : DL) : (mineL u now l).length ≤ l.length := by unfold mineL; rw [List.length_map]; exact List.length_filter_le _ _
theorem mineL_cons (u : Str) (now : Int) (e : device_key × device_record) (l : DL) : mineL u now (e :: l) = if (e.1.user == u) && decide (lim now < e.2.until_) then e.1.id :: mineL u now l else mineL u now l := by
  unfold mineL; rw [List.filter_cons]; split <;> rfl
theorem list_loop (l : DL) (g : Int) (u : Str) (now : Int) (hn : nodupK l) (hl : l.length ≤ 256) : ∀ (k : Nat) (done : List device_key) (out : List Str) (n : Nat), (leftL l done).length = k → k < n → out.length + k ≤ 256 →
    device_Devices_List_L1 n ⟨some l, g⟩ u now out done = some (sortS (out ++ mineL u now (leftL l done))) := by
  intro k
  induction k with
  | zero =>
    intro done out n hk hn' ho
    obtain ⟨n, rfl⟩ : ∃ k, n = k + 1 := ⟨n - 1, by omega⟩
    have e := List.eq_nil_of_length_eq_zero hk
    unfold device_Devices_List_L1
    rw [mleft_some, e, pickAny, lib_Sort_eq (by omega)]
    simp [mineL]
  | succ k ih =>
    intro done out n hk hn' ho
    obtain ⟨n, rfl⟩ : ∃ k, n = k + 1 := ⟨n - 1, by omega⟩
    unfold device_Devices_List_L1
    rw [mleft_some]
    refine pickAny_of (fun e => by rw [e] at hk; cases hk) fun e he => ?_
    have hp := leftL_perm hn he
    have hlen := leftL_len hn he
    obtain ⟨hmem, _⟩ := leftL_mem he
    have hfind := mfind_of_mem hn hmem
    have hp2 : (out ++ mineL u now (leftL l done)).Perm (out ++ mineL u now (e :: leftL l (e.1 :: done))) := (mineL_perm hp).append_left out
    rw [sortS_congr hp2, mineL_cons]
    by_cases hu : e.1.user = u
    · have hk2 : (⟨u, e.1.id⟩ : device_key) = e.1 := by rw [← hu]
      rw [if_pos (by simpa using hu), trusted_eq]
      simp only [Option.bind_some, truD, hk2, hfind]
      by_cases ht : lim now < e.2.until_
      · rw [if_pos (by simpa using ht), if_pos (by simp [hu, ht]), chk_t (by simp [fitL]; omega)]
        unfold device_Devices_List_B2
        rw [ih (e.1 :: done) _ n (by omega) (by omega) (by simp; omega)]
        rw [List.append_assoc]; rfl
      · rw [if_neg (by simpa using ht), if_neg (by simp [ht])]
        unfold device_Devices_List_B2
        exact ih (e.1 :: done) _ n (by omega) (by omega) (by omega)
    · rw [if_neg (by simpa using hu), if_neg (by simp [hu])]
      simp only [Option.bind_some, Bool.false_eq_true, if_false]
      unfold device_Devices_List_B2
      exact ih (e.1 :: done) _ n (by omega) (by omega) (by omega)
theorem list_eq {l : DL} {g : Int} {N : Nat} (h : Inv l g N) (u : Str) (now : Int) : device_Devices_List ⟨some l, g⟩ u now = some (sortS (mineL u now l)) := by
  unfold device_Devices_List
  simp only [made_eq, Option.bind_some, Bool.not_true, Bool.false_eq_true, if_false]
  have hl := h.len
  have := list_loop l g u now h.nd hl l.length [] [] fuel (by rw [leftL_nil]) (fuel_big (by omega)) (by simp; omega)
  rw [this, leftL_nil]; rfl
def others (u : Str) (l : DL) : DL := l.filter fun p => !(p.1.user == u)
def own (u : Str) (l : DL) : DL := l.filter fun p => p.1.user == u
theorem own_others (u : Str) (l : DL) : (own u l).length + (others u l).length = l.length := by
  induction l with
  | nil => rfl
  | cons p l ih =>
    simp only [own, others, List.filter_cons] at ih ⊢
    cases hp : p.1.user == u <;> simp <;> omega
/-- the deletions of an iteration -/
theorem drop_loop (g : Int) (u : Str) (N0 : Int) (l0 : DL) (hn0 : nodupK l0) : ∀ (k : Nat) (done : List device_key) (n : Nat), (leftL l0 done).length = k → k < n → (∀ x ∈ done, True) →
    device_Devices_Drop_L1 n ⟨some (l0.filter fun p => !(decide (p.1 ∈ done) && (p.1.user == u))), g⟩ u N0 done =
      some (IntKind.i64.wrap (N0 - ((others u l0).length : Int)), ⟨some (others u l0), g⟩) := by
  intro k
  induction k with
  | zero =>
    intro done n hk hn' _
    obtain ⟨n, rfl⟩ : ∃ k, n = k + 1 := ⟨n - 1, by omega⟩
    have e := List.eq_nil_of_length_eq_zero hk
    have hall : ∀ p ∈ l0, p.1 ∈ done := fun p hp => by
      refine Classical.byContradiction fun hc => ?_
      have : p ∈ leftL l0 done := List.mem_filter.2 ⟨hp, by simpa using hc⟩
      rw [e] at this; cases this
    have e2 : (l0.filter fun p => !(decide (p.1 ∈ done) && (p.1.user == u))) = others u l0 := List.filter_congr fun p hp => by simp [hall p hp]
    have e3 : leftL (others u l0) done = [] := List.filter_eq_nil_iff.2 fun p hp => by simp [hall p (List.mem_filter.1 hp).1]
    unfold device_Devices_Drop_L1
    rw [e2]
    simp only [mleft_some, e3, pickAny, mlen, Option.getD_some]
  | succ k ih =>
    intro done n hk hn' _
    obtain ⟨n, rfl⟩ : ∃ k, n = k + 1 := ⟨n - 1, by omega⟩
    have hsame : leftL (l0.filter fun p => !(decide (p.1 ∈ done) && (p.1.user == u))) done = leftL l0 done := by
      unfold leftL
      rw [List.filter_filter]
      refine List.filter_congr fun p _ => ?_
      by_cases hd : p.1 ∈ done <;> simp [hd]
    unfold device_Devices_Drop_L1
    simp only [mleft_some, hsame]
    refine pickAny_of (fun e => by rw [e] at hk; cases hk) fun e he => ?_
    have hlen := leftL_len hn0 he
    obtain ⟨hmem, hnd⟩ := leftL_mem he
    unfold device_Devices_Drop_B2
    by_cases hu : e.1.user = u
    · rw [if_pos (by simpa using hu)]
      have e2 : mdel (some (l0.filter fun p => !(decide (p.1 ∈ done) && (p.1.user == u)))) e.1 = some (l0.filter fun p => !(decide (p.1 ∈ e.1 :: done) && (p.1.user == u))) := by
        show some (mdelL _ _) = _
        rw [del_filter (nodupK_filter hn0), List.filter_filter]
        congr 1
        refine List.filter_congr fun p _ => ?_
        by_cases hp : p.1 = e.1
        · simp [hp, hu]
        · simp [hp]
      simp only [e2]
      exact ih (e.1 :: done) n (by omega) (by omega) (fun _ _ => trivial)
    · rw [if_neg (by simpa using hu)]
      have e2 : (l0.filter fun p => !(decide (p.1 ∈ done) && (p.1.user == u))) = l0.filter fun p => !(decide (p.1 ∈ e.1 :: done) && (p.1.user == u)) := by
        refine List.filter_congr fun p _ => ?_
        by_cases hp : p.1 = e.1
        · simp [hp, hu]
        · simp [hp]
      rw [e2]
      exact ih (e.1 :: done) n (by omega) (by omega) (fun _ _ => trivial)
theorem drop_eq {l : DL} {g : Int} {N : Nat} (h : Inv l g N) (u : Str) : device_Devices_Drop ⟨some l, g⟩ u = some (((own u l).length : Int), ⟨some (others u l), g⟩) := by
  unfold device_Devices_Drop
  simp only [made_eq, Option.bind_some, Bool.not_true, Bool.false_eq_true, if_false]
  have hl := h.len
  have h1 := drop_loop g u (mlen (some l)) l h.nd l.length [] fuel (by rw [leftL_nil]) (fuel_big (by omega)) (fun _ _ => trivial)
  have e : (l.filter fun p => !(decide (p.1 ∈ ([] : List device_key)) && (p.1.user == u))) = l := List.filter_eq_self.2 fun _ _ => by simp
  rw [e] at h1
  rw [h1]
  have := own_others u l
  simp only [mlen, Option.getD_some]
  rw [w64 (by omega) (by omega)]
  congr 2
  omega
theorem revoke_eq (l : DL) (g : Int) (u i : Str) : device_Devices_Revoke ⟨some l, g⟩ u i = some ((mfind (⟨u, i⟩ : device_key) l).isSome, ⟨some (mdelL ⟨u, i⟩ l), g⟩) := rfl
theorem inv_others {l : DL} {g : Int} {N : Nat} (h : Inv l g N) (u : Str) : Inv (others u l) g N :=
  ⟨nodupK_filter h.nd, Nat.le_trans (List.length_filter_le _ _) h.len, fun p hp => h.good p (List.mem_filter.1 hp).1, h.g0, h.g1⟩
theorem inv_del {l : DL} {g : Int} {N : Nat} (h : Inv l g N) (k : device_key) : Inv (mdelL k l) g N :=
  ⟨nodupK_del h.nd, by have := len_del (k := k) h.nd; have := h.len; omega, fun p hp => h.good p (mem_del hp), h.g0, h.g1⟩
/-! ### the gates -/
def tooLong (l : List Str) (m : Int) : Bool := l.any fun s => decide ((s.length : Int) > m)
theorem great_loop (l : List Str) (m : Int) (hl : fits l) : ∀ (r : List Str) (i n : Nat), l.drop i = r → i ≤ l.length → r.length < n → ref02_Great_L1 n l m (i : Int) = some (tooLong r m) := by
  unfold fits at hl
  intro r
  induction r with
  | nil =>
    intro i n hd hi hn
    obtain ⟨n, rfl⟩ : ∃ k, n = k + 1 := ⟨n - 1, by simp at hn; omega⟩
    have := drop_nil hd
    simp only [ref02_Great_L1, show ¬ ((i : Int) < l.length) by omega, decide_false, Bool.false_eq_true, if_false]
    rfl
  | cons x r ih =>
    intro i n hd hi hn
    obtain ⟨n, rfl⟩ : ∃ k, n = k + 1 := ⟨n - 1, by simp at hn; omega⟩
    obtain ⟨h1, h2, h3⟩ := drop_more hd
    have hlt := drop_lt hd
    simp only [ref02_Great_L1, show ((i : Int) < l.length) by omega, decide_true, if_true, idx_n, h2, Option.bind_some, w64n (show i < 9223372036854775807 by omega), ih (i + 1) n h3 (by omega) (by simp at hn; omega)]
    unfold tooLong
    rw [List.any_cons]
    by_cases hx : (x.length : Int) > m
    · simp [hx]
    · simp [hx]
theorem great_eq (l : List Str) (k m : Int) (hl : fits l) (hk : (l.length : Int) ≤ k) : ref02_Great l k m = some (tooLong l m) := by
  unfold ref02_Great
  rw [if_neg (by simpa using hk)]
  exact great_loop l m hl l 0 fuel rfl (by omega) (fuel_pos hl)
theorem tooLong_false {l : List Str} {m : Nat} (h : tooLong l (m : Int) = false) : ∀ s ∈ l, s.length ≤ m := by
  intro s hs
  unfold tooLong at h
  rw [List.any_eq_false] at h
  have := h s hs
  simp at this
  omega
def shortOp (o : law37_Op) : Prop := o.User.length ≤ 300 ∧ o.ID.length ≤ 300 ∧ o.Secret.length ≤ 300
theorem long_loop (l : List law37_Op) (hl : fits l) : ∀ (r : List law37_Op) (i n : Nat), l.drop i = r → i ≤ l.length → r.length < n →
    law37_long_L1 n l (l.length : Int) (i : Int) = some true ∨ (law37_long_L1 n l (l.length : Int) (i : Int) = some false ∧ ∀ o ∈ r, shortOp o) := by
  unfold fits at hl
  intro r
  induction r with
  | nil =>
    intro i n hd hi hn
    obtain ⟨n, rfl⟩ : ∃ k, n = k + 1 := ⟨n - 1, by simp at hn; omega⟩
    have := drop_nil hd
    refine .inr ⟨?_, fun o ho => by cases ho⟩
    simp only [law37_long_L1, show ¬ ((i : Int) < l.length) by omega, decide_false, Bool.false_eq_true, if_false]
  | cons x r ih =>
    intro i n hd hi hn
    obtain ⟨n, rfl⟩ : ∃ k, n = k + 1 := ⟨n - 1, by simp at hn; omega⟩
    obtain ⟨h1, h2, h3⟩ := drop_more hd
    have hlt := drop_lt hd
    simp only [law37_long_L1, show ((i : Int) < l.length) by omega, decide_true, if_true, idx_n, h2, Option.bind_some, w64n (show i < 9223372036854775807 by omega), great_eq [x.User, x.ID, x.Secret] 3 300 (by simp [fits]) (by simp)]
    cases ht : tooLong [x.User, x.ID, x.Secret] 300 with
    | true => exact .inl rfl
    | false =>
      have hs := tooLong_false (m := 300) ht
      rcases ih (i + 1) n h3 (by omega) (by simp at hn; omega) with h | ⟨h, ho⟩
      · exact .inl h
      · refine .inr ⟨h, fun o ho' => ?_⟩
        rcases List.mem_cons.1 ho' with rfl | ho'
        · exact ⟨hs _ (by simp), hs _ (by simp), hs _ (by simp)⟩
        · exact ho o ho'
theorem long_gate (l : List law37_Op) (m : Nat) (hl : fits l) : law37_long l (m : Int) = some true ∨ (law37_long l (m : Int) = some false ∧ l.length ≤ m ∧ ∀ o ∈ l, shortOp o) := by
  unfold law37_long
  by_cases h : (l.length : Int) > m
  · rw [if_pos (by simpa using h)]; exact .inl rfl
  · rw [if_neg (by simpa using h)]
    rcases long_loop l hl l 0 fuel rfl (by omega) (fuel_pos hl) with h1 | ⟨h1, h2⟩
    · exact .inl h1
    · exact .inr ⟨h1, by omega, h2⟩
/-! ### operations -/
theorem short_fits {s : Str} (h : s.length ≤ 300) : fits s := by unfold fits; omega
theorem short_mid {s : Str} (h : s.length ≤ 300) : mid s := by unfold mid; omega
/-- what an operation does to another user's devices -/
theorem own_put {u : Str} {k : device_key} {x : device_record} (hk : k.user ≠ u) : ∀ (l : DL), own u (mputL k x l) = own u l
  | [] => by unfold own mputL; rw [List.filter_cons, if_neg (by simpa using hk)]
  | p :: l => by
    have ih := own_put (k := k) (x := x) hk l
    unfold own at ih ⊢
    unfold mputL
    by_cases e : k = p.1
    · rw [if_pos e, List.filter_cons, List.filter_cons, if_neg (by simpa using hk), if_neg (by rw [← e]; simpa using hk)]
    · rw [if_neg e, List.filter_cons, List.filter_cons, ih]
theorem own_del {u : Str} {k : device_key} (hk : k.user ≠ u) : ∀ (l : DL), own u (mdelL k l) = own u l
  | [] => rfl
  | p :: l => by
    have ih := own_del (k := k) hk l
    unfold own at ih ⊢
    unfold mdelL
    by_cases e : k = p.1
    · rw [if_pos e, List.filter_cons, if_neg (by rw [← e]; simpa using hk)]
    · rw [if_neg e, List.filter_cons, List.filter_cons, ih]
theorem own_drop {u v : Str} (hk : v ≠ u) (l : DL) : own u (others v l) = own u l := by
  unfold own others
  rw [List.filter_filter]
  refine List.filter_congr fun p _ => ?_
  by_cases h : p.1.user = u
  · simp [h]; exact fun e => hk e.symm
  · simp [h]
theorem own_find (u i : Str) : ∀ (l : DL), mfind (⟨u, i⟩ : device_key) l = mfind ⟨u, i⟩ (own u l)
  | [] => rfl
  | p :: l => by
    have ih := own_find u i l
    unfold own at ih ⊢
    rw [List.filter_cons]
    by_cases e : (⟨u, i⟩ : device_key) = p.1
    · rw [if_pos (by rw [← e]; simp)]
      simp only [mfind, if_pos e]
    · simp only [mfind, if_neg e]
      split
      · simp only [mfind, if_neg e]; exact ih
      · exact ih
theorem mineL_own (u : Str) (now : Int) (l : DL) : mineL u now l = mineL u now (own u l) := by
  unfold mineL own
  rw [List.filter_filter]
  congr 1
  refine List.filter_congr fun p _ => ?_
  cases p.1.user == u <;> simp
theorem truD_own (l : DL) (u i : Str) (now : Int) : truD l u i now = truD (own u l) u i now := by unfold truD; rw [own_find]
theorem findR_own (l : DL) (u i : Str) (now : Int) : findR l u i now = findR (own u l) u i now := by unfold findR; rw [own_find]
theorem chal_own (l : DL) (g : Int) (u v i : Str) (now : Int) (hv : v ≠ u) : ∃ l' g', (chalR l g v i now).2.2 = ⟨some l', g'⟩ ∧ own u l' = own u l := by
  unfold chalR
  split
  · exact ⟨_, _, rfl, own_put (k := ⟨v, i⟩) hv l⟩
  · exact ⟨_, _, rfl, rfl⟩
theorem prov_own (l : DL) (g : Int) (u v i a : Str) (now : Int) (hv : v ≠ u) : ∃ l' g', (provR l g v i a now).2 = ⟨some l', g'⟩ ∧ own u l' = own u l := by
  unfold provR
  split
  · split
    · exact ⟨_, _, rfl, rfl⟩
    · exact ⟨_, _, rfl, own_put (k := ⟨v, i⟩) hv l⟩
  · exact ⟨_, _, rfl, rfl⟩
theorem chal_text (l : DL) (g : Int) (u i : Str) (now : Int) : (chalR l g u i now).1.length ≤ 17 := by
  unfold chalR; split
  · simp [uniqS_len]
  · simp
/-- every operation is defined, keeps the invariant, and leaves other users alone -/
theorem do_ok {l : DL} {g : Int} {N : Nat} (h : Inv l g N) (hN : N < 100000) (o : law37_Op) (last : Str) (ho : shortOp o) (hl : last.length ≤ 300) :
    ∃ r l' g', law37_do ⟨some l, g⟩ o last = some (r, ⟨some l', g'⟩) ∧ Inv l' g' (N + 1) ∧ r.text.length ≤ 300 ∧ ∀ u, o.User ≠ u → own u l' = own u l := by
  obtain ⟨h1, h2, h3⟩ := ho
  unfold law37_do law37_do_B1
  by_cases k1 : o.Kind = 1
  · rw [if_pos (by simpa using k1), trust_eq _ _ _ _ _ _ _ (short_fits h1) (short_fits h2) (short_fits h3), Option.bind_some]
    obtain ⟨l', e1, e2, e3⟩ := trust_inv h o.User o.ID o.Secret o.Until o.Now
    rw [e1]
    refine ⟨_, l', g, rfl, e2.mono (by omega), by simp, fun u hu => ?_⟩
    rcases e3 with rfl | ⟨x, rfl⟩
    · rfl
    · exact own_put (k := ⟨o.User, o.ID⟩) hu l
  rw [if_neg (by simpa using k1)]
  by_cases k2 : o.Kind = 2
  · rw [if_pos (by simpa using k2), challenge_eq h hN, Option.bind_some]
    obtain ⟨l', g', e1, e2⟩ := chal_inv h o.User o.ID o.Now
    refine ⟨_, l', g', by rw [e1], e2, ?_, fun u hu => ?_⟩
    · have := chal_text l g o.User o.ID o.Now; simp only; omega
    · obtain ⟨l2, g2, e3, e4⟩ := chal_own l g u o.User o.ID o.Now hu
      rw [e1] at e3
      simp only [device_Devices.mk.injEq, Option.some.injEq] at e3
      rw [e3.1]; exact e4
  rw [if_neg (by simpa using k2)]
  have prov : ∀ a : Str, ∃ r l' g', ((device_Devices_Prove ⟨some l, g⟩ o.User o.ID a o.Now).bind fun y55 =>
      some ((law37_result.mk [] [] 0 false y55.1), y55.2)) = some (r, ⟨some l', g'⟩) ∧ Inv l' g' (N + 1) ∧ r.text.length ≤ 300 ∧ ∀ u, o.User ≠ u → own u l' = own u l := by
    intro a
    rw [prove_eq h, Option.bind_some]
    obtain ⟨l', g', e1, e2⟩ := prov_inv h o.User o.ID a o.Now
    refine ⟨_, l', g', by rw [e1], e2.mono (by omega), by simp, fun u hu => ?_⟩
    obtain ⟨l2, g2, e3, e4⟩ := prov_own l g u o.User o.ID a o.Now hu
    rw [e1] at e3
    simp only [device_Devices.mk.injEq, Option.some.injEq] at e3
    rw [e3.1]; exact e4
  by_cases k3 : o.Kind = 3
  · rw [if_pos (by simpa using k3)]; exact prov _
  rw [if_neg (by simpa using k3)]
  by_cases k4 : o.Kind = 4
  · rw [if_pos (by simpa using k4), answer_eq _ _ (short_mid h3) (short_mid hl), Option.bind_some]; exact prov _
  rw [if_neg (by simpa using k4)]
  by_cases k5 : o.Kind = 5
  · rw [if_pos (by simpa using k5), revoke_eq, Option.bind_some]
    exact ⟨_, _, _, rfl, (inv_del h _).mono (by omega), by simp, fun u hu => own_del (k := ⟨o.User, o.ID⟩) hu l⟩
  rw [if_neg (by simpa using k5)]
  by_cases k6 : o.Kind = 6
  · rw [if_pos (by simpa using k6), list_eq h, Option.bind_some]
    exact ⟨_, _, _, rfl, h.mono (by omega), by simp, fun _ _ => rfl⟩
  rw [if_neg (by simpa using k6)]
  by_cases k7 : o.Kind = 7
  · rw [if_pos (by simpa using k7), drop_eq h, Option.bind_some]
    exact ⟨_, _, _, rfl, (inv_others h _).mono (by omega), by simp, fun u hu => own_drop hu l⟩
  rw [if_neg (by simpa using k7)]
  by_cases k8 : o.Kind = 8
  · rw [if_pos (by simpa using k8), trusted_eq, Option.bind_some]
    exact ⟨_, _, _, rfl, h.mono (by omega), by simp, fun _ _ => rfl⟩
  rw [if_neg (by simpa using k8)]
  exact ⟨_, _, _, rfl, h.mono (by omega), by simp, fun _ _ => rfl⟩
theorem run_loop (ops : List law37_Op) (hf : fits ops) (ho : ∀ o ∈ ops, shortOp o) : ∀ (r : List law37_Op) (i n N : Nat) (l : DL) (g : Int) (last : Str), ops.drop i = r → r.length < n → Inv l g N → N + r.length < 100000 → last.length ≤ 300 →
    ∃ l' g' last', law37_run_L1 n ops ⟨some l, g⟩ last (ops.length : Int) (i : Int) = some (⟨some l', g'⟩, last') ∧ Inv l' g' (N + r.length) ∧ last'.length ≤ 300 := by
  unfold fits at hf
  intro r
  induction r with
  | nil =>
    intro i n N l g last hd hn h hN hl
    obtain ⟨n, rfl⟩ : ∃ k, n = k + 1 := ⟨n - 1, by simp at hn; omega⟩
    have := drop_nil hd
    refine ⟨l, g, last, ?_, h, hl⟩
    simp only [law37_run_L1, show ¬ ((i : Int) < ops.length) by omega, decide_false, Bool.false_eq_true, if_false]
  | cons o r ih =>
    intro i n N l g last hd hn h hN hl
    obtain ⟨n, rfl⟩ : ∃ k, n = k + 1 := ⟨n - 1, by simp at hn; omega⟩
    obtain ⟨h1, h2, h3⟩ := drop_more hd
    have hlt := drop_lt hd
    simp only [List.length_cons] at hn hN
    obtain ⟨x, l1, g1, e1, e2, e3, _⟩ := do_ok h (by omega) o last (ho o (List.mem_of_getElem? h2)) hl
    simp only [law37_run_L1, show ((i : Int) < ops.length) by omega, decide_true, if_true, idx_n, h2, Option.bind_some, e1, law37_run_B2, w64n (show i < 9223372036854775807 by omega)]
    rw [show N + (o :: r).length = N + 1 + r.length by simp; omega]
    split
    · exact ih (i + 1) n (N + 1) l1 g1 x.text h3 (by omega) e2 (by omega) e3
    · exact ih (i + 1) n (N + 1) l1 g1 last h3 (by omega) e2 (by omega) hl
theorem run_ok (ops : List law37_Op) (hf : fits ops) (hm : ops.length ≤ 20) (ho : ∀ o ∈ ops, shortOp o) : ∃ l g last, law37_run ops = some (⟨some l, g⟩, last) ∧ Inv l g 20 ∧ last.length ≤ 300 := by
  obtain ⟨l, g, last, h1, h2, h3⟩ := run_loop ops hf ho ops 0 fuel 0 [] 0 [] rfl (fuel_pos hf) inv_new (by omega) (by simp)
  exact ⟨l, g, last, h1, h2.mono (by omega), h3⟩
/-! ### the laws -/
theorem fits_lit {l : List Str} (h : l.length ≤ 10) : fits l := by unfold fits; omega
/-- behind an accepted or a wrong answer -/
theorem once_B1 {l : DL} {g : Int} {N : Nat} (h : Inv l g N) (hN : N < 100000) (u i secret again answer : Str) (now : Int) (hs : mid secret) (he : (findR l u i now).2 = 0) :
    ∃ l' g', (chalR l g u i now).2.2 = ⟨some l', g'⟩ ∧ law37_DeviceOnce_B1 u i secret again now ⟨some l', g'⟩ (chalR l g u i now).1 answer = some true := by
  obtain ⟨l', g', e1, e2⟩ := chal_inv h u i now
  refine ⟨l', g', e1, ?_⟩
  obtain ⟨r, r1, r2, r3⟩ := find_ok he
  have e1' := e1
  unfold chalR at e1
  rw [if_pos he, r2] at e1
  simp only [device_Devices.mk.injEq, Option.some.injEq] at e1
  obtain ⟨rfl, rfl⟩ := e1
  have f1 : findR (mputL (⟨u, i⟩ : device_key) ⟨r.secret, uniqS (kk u i) (g + 1).toNat, r.until_⟩ l) u i now = (⟨r.secret, uniqS (kk u i) (g + 1).toNat, r.until_⟩, 0) := by
    unfold findR; rw [mfind_put_self]; simp only; rw [if_neg (by omega)]
  have hne : ¬ uniqS (kk u i) (g + 1).toNat = [] := by simp [uniqS]
  have hc : (chalR l g u i now).1 = uniqS (kk u i) (g + 1).toNat := by unfold chalR; rw [if_pos he]
  unfold law37_DeviceOnce_B1
  rw [prove_eq e2, Option.bind_some]
  have hp : ∀ a, provR (mputL (⟨u, i⟩ : device_key) ⟨r.secret, uniqS (kk u i) (g + 1).toNat, r.until_⟩ l) (g + 1) u i a now =
      (if a == macS r.secret (uniqS (kk u i) (g + 1).toNat) then 0 else 11, ⟨some (mputL ⟨u, i⟩ ⟨r.secret, [], r.until_⟩ (mputL (⟨u, i⟩ : device_key) ⟨r.secret, uniqS (kk u i) (g + 1).toNat, r.until_⟩ l)), g + 1⟩) := by
    intro a; unfold provR; rw [f1]; simp only [if_true, if_neg hne]
  obtain ⟨l3, g3, e3, e4⟩ := prov_inv e2 u i answer now
  rw [hp] at e3 ⊢
  simp only [device_Devices.mk.injEq, Option.some.injEq] at e3
  obtain ⟨rfl, rfl⟩ := e3
  have f2 : findR (mputL (⟨u, i⟩ : device_key) ⟨r.secret, [], r.until_⟩ (mputL (⟨u, i⟩ : device_key) ⟨r.secret, uniqS (kk u i) (g + 1).toNat, r.until_⟩ l)) u i now = (⟨r.secret, [], r.until_⟩, 0) := by
    unfold findR; rw [mfind_put_self]; simp only; rw [if_neg (by omega)]
  have hq : ∀ a, provR (mputL (⟨u, i⟩ : device_key) ⟨r.secret, [], r.until_⟩ (mputL (⟨u, i⟩ : device_key) ⟨r.secret, uniqS (kk u i) (g + 1).toNat, r.until_⟩ l)) (g + 1) u i a now =
      (12, ⟨some (mputL (⟨u, i⟩ : device_key) ⟨r.secret, [], r.until_⟩ (mputL (⟨u, i⟩ : device_key) ⟨r.secret, uniqS (kk u i) (g + 1).toNat, r.until_⟩ l)), g + 1⟩) := by
    intro a; unfold provR; rw [f2]; simp
  have hx : (((if (answer == macS r.secret (uniqS (kk u i) (g + 1).toNat)) = true then (0 : Int) else 11) != 0) && ((if (answer == macS r.secret (uniqS (kk u i) (g + 1).toNat)) = true then (0 : Int) else 11) != 11)) = false := by
    split <;> rfl
  rw [if_neg (by rw [hx]; simp), answer_eq _ _ hs (by unfold mid; rw [hc, uniqS_len]; omega), Option.bind_some]
  simp only [prove_eq e4, hq, Option.bind_some]
  rfl
theorem once_true (ops : List law37_Op) (u i secret wrong again : Str) (now : Int) (hf : fits ops) : law37_DeviceOnce ops u i secret wrong again now = some true := by
  unfold law37_DeviceOnce
  rw [live37, Option.bind_some, if_neg (by simp)]
  rcases long_gate ops 20 hf with h | ⟨h, hm, ho⟩
  · rw [show (20 : Int) = ((20 : Nat) : Int) from rfl, h]; rfl
  rw [show (20 : Int) = ((20 : Nat) : Int) from rfl, h, Option.bind_some, if_neg (by simp), great_eq _ 5 300 (fits_lit (by simp)) (by simp), Option.bind_some, Option.bind_some]
  cases ht : tooLong [u, i, secret, wrong, again] 300 with
  | true => rfl
  | false =>
    have hs := tooLong_false (m := 300) ht
    obtain ⟨l, g, last, e1, e2, e3⟩ := run_ok ops hf hm ho
    rw [if_neg (by simp), e1, Option.bind_some]
    simp only [challenge_eq e2 (by omega : 20 < 100000), Option.bind_some]
    by_cases he : (findR l u i now).2 = 0
    · have h0 : (chalR l g u i now).2.1 = 0 := by unfold chalR; rw [if_pos he]
      rw [if_neg (by simp [h0])]
      have hms : mid secret := short_mid (hs _ (by simp))
      have hc : mid (chalR l g u i now).1 := by have := chal_text l g u i now; unfold mid; omega
      split
      · rw [answer_eq _ _ hms hc, Option.bind_some]
        obtain ⟨l', g', a1, a2⟩ := once_B1 e2 (by omega) u i secret again (macS secret (chalR l g u i now).1) now hms he
        rw [a1]; exact a2
      · obtain ⟨l', g', a1, a2⟩ := once_B1 e2 (by omega) u i secret again wrong now hms he
        rw [a1]; exact a2
    · have h0 : chalR l g u i now = ([], (findR l u i now).2, ⟨some l, g⟩) := by unfold chalR; rw [if_neg he]
      rw [h0, if_pos (by simpa using he)]
      simp only [trusted_eq, Option.bind_some, truD_find]
      have : ((findR l u i now).2 == 0) = false := by simpa using he
      rw [this]; rfl
theorem answers_true (u i secret other : Str) (un now : Int) : law37_DeviceAnswers u i secret other un now = some true := by
  unfold law37_DeviceAnswers
  rw [live37, Option.bind_some, if_neg (by simp), great_eq _ 4 300 (fits_lit (by simp)) (by simp), Option.bind_some]
  cases ht : tooLong [u, i, secret, other] 300 with
  | true => rfl
  | false =>
    have hs := tooLong_false (m := 300) ht
    have h1 := hs u (by simp); have h2 := hs i (by simp); have h3 := hs secret (by simp); have h4 := hs other (by simp)
    rw [if_neg (by simp)]
    show (some (device_Devices.mk (some []) 0)).bind _ = _
    rw [Option.bind_some, trust_eq _ _ _ _ _ _ _ (short_fits h1) (short_fits h2) (short_fits h3), Option.bind_some]
    unfold trustR
    by_cases he : trE [] u i secret un now = 0
    · obtain ⟨t1, t2, t3, t4, t5⟩ := trE_ok he
      obtain ⟨l', a1, a2, a3⟩ := trust_inv inv_new u i secret un now
      have a1' := a1
      unfold trustR at a1'
      rw [if_pos he] at a1'
      simp only [device_Devices.mk.injEq, Option.some.injEq, and_true] at a1'
      have hfind := trL_find he
      rw [a1'] at hfind
      rw [if_pos he, if_neg (by simp), a1']
      have hun : (trR [] u i secret un).until_ = lim un := by
        have := lim_range un
        simp only [trR, mfind, Option.getD_none, zr]; unfold gmax; split <;> omega
      have hsec : (trR [] u i secret un).secret = secret := rfl
      have f1 : findR l' u i now = (trR [] u i secret un, 0) := by
        unfold findR; rw [hfind]; simp only; rw [if_neg (by rw [hun]; omega)]
      have he1 : (findR l' u i now).2 = 0 := by rw [f1]
      simp only [challenge_eq a2 (by omega : 0 < 100000), Option.bind_some]
      obtain ⟨l2, g2, b1, b2⟩ := chal_inv a2 u i now
      have hc : chalR l' 0 u i now = (uniqS (kk u i) 1, 0, ⟨some (mputL ⟨u, i⟩ ⟨secret, uniqS (kk u i) 1, lim un⟩ l'), 1⟩) := by
        unfold chalR; rw [if_pos he1, f1]; simp only [hun, hsec]; rfl
      rw [hc] at b1 ⊢
      simp only [device_Devices.mk.injEq, Option.some.injEq] at b1
      obtain ⟨rfl, rfl⟩ := b1
      have hmc : mid (uniqS (kk u i) 1) := by unfold mid; rw [uniqS_len]; omega
      simp only [answer_eq _ _ (short_mid h4) hmc, Option.bind_some, prove_eq b2]
      have f2 : findR (mputL ⟨u, i⟩ ⟨secret, uniqS (kk u i) 1, lim un⟩ l') u i now = (⟨secret, uniqS (kk u i) 1, lim un⟩, 0) := by
        unfold findR; rw [mfind_put_self]; simp only; rw [if_neg (by omega)]
      have hne : ¬ uniqS (kk u i) 1 = [] := by simp [uniqS]
      obtain ⟨l3, g3, c1, c2⟩ := prov_inv b2 u i (macS other (uniqS (kk u i) 1)) now
      have hp : provR (mputL ⟨u, i⟩ ⟨secret, uniqS (kk u i) 1, lim un⟩ l') 1 u i (macS other (uniqS (kk u i) 1)) now =
          (if macS other (uniqS (kk u i) 1) == macS secret (uniqS (kk u i) 1) then 0 else 11, ⟨some (mputL ⟨u, i⟩ ⟨secret, [], lim un⟩ (mputL ⟨u, i⟩ ⟨secret, uniqS (kk u i) 1, lim un⟩ l')), 1⟩) := by
        unfold provR; rw [f2]; simp only [if_true, if_neg hne]
      rw [hp] at c1 ⊢
      simp only [device_Devices.mk.injEq, Option.some.injEq] at c1
      obtain ⟨rfl, rfl⟩ := c1
      simp only [digest_Mac_eq _ _ (short_mid h3) hmc, digest_Mac_eq _ _ (short_mid h4) hmc, Option.bind_some, challenge_eq c2 (by omega : 0 + 1 < 100000)]
      have f3 : findR (mputL ⟨u, i⟩ ⟨secret, [], lim un⟩ (mputL ⟨u, i⟩ ⟨secret, uniqS (kk u i) 1, lim un⟩ l')) u i now = (⟨secret, [], lim un⟩, 0) := by
        unfold findR; rw [mfind_put_self]; simp only; rw [if_neg (by omega)]
      obtain ⟨l4, g4, d1, d2⟩ := chal_inv c2 u i now
      have hc2 : chalR (mputL ⟨u, i⟩ ⟨secret, [], lim un⟩ (mputL ⟨u, i⟩ ⟨secret, uniqS (kk u i) 1, lim un⟩ l')) 1 u i now =
          (uniqS (kk u i) 2, 0, ⟨some (mputL ⟨u, i⟩ ⟨secret, uniqS (kk u i) 2, lim un⟩ (mputL ⟨u, i⟩ ⟨secret, [], lim un⟩ (mputL ⟨u, i⟩ ⟨secret, uniqS (kk u i) 1, lim un⟩ l'))), 2⟩) := by
        unfold chalR; rw [f3]; rfl
      rw [hc2] at d1 ⊢
      simp only [device_Devices.mk.injEq, Option.some.injEq] at d1
      obtain ⟨rfl, rfl⟩ := d1
      have hmc2 : mid (uniqS (kk u i) 2) := by unfold mid; rw [uniqS_len]; omega
      have hne2 : ¬ uniqS (kk u i) 2 = [] := by simp [uniqS]
      have f4 : findR (mputL ⟨u, i⟩ ⟨secret, uniqS (kk u i) 2, lim un⟩ (mputL ⟨u, i⟩ ⟨secret, [], lim un⟩ (mputL ⟨u, i⟩ ⟨secret, uniqS (kk u i) 1, lim un⟩ l'))) u i now = (⟨secret, uniqS (kk u i) 2, lim un⟩, 0) := by
        unfold findR; rw [mfind_put_self]; simp only; rw [if_neg (by omega)]
      have hp2 : (provR (mputL ⟨u, i⟩ ⟨secret, uniqS (kk u i) 2, lim un⟩ (mputL ⟨u, i⟩ ⟨secret, [], lim un⟩ (mputL ⟨u, i⟩ ⟨secret, uniqS (kk u i) 1, lim un⟩ l'))) 2 u i (macS secret (uniqS (kk u i) 2)) now).1 = 0 := by
        unfold provR; rw [f4]; simp only [if_true, if_neg hne2, beq_self_eq_true]
      simp only [answer_eq _ _ (short_mid h3) hmc2, Option.bind_some, prove_eq d2, hp2, Option.some.injEq]
      by_cases hx : macS other (uniqS (kk u i) 1) = macS secret (uniqS (kk u i) 1)
      · simp [hx]
      · have hx2 : ¬ macS secret (uniqS (kk u i) 1) = macS other (uniqS (kk u i) 1) := fun e => hx e.symm
        simp [hx, hx2]
    · rw [if_neg he, if_pos (by simpa using he)]
      simp only [answer_eq _ _ (short_mid h3) (short_mid h4), digest_Mac_eq _ _ (short_mid h3) (short_mid h4), Option.bind_some, beq_self_eq_true]
theorem clock_Add0_eq (a : Int) : clock_Add a 0 = some (lim a) := by
  have h1 := lim_range a
  simp only [clock_Add, clock_limited, Option.bind_some]
  show some (lim (IntKind.i64.wrap (lim a + lim 0))) = _
  rw [lim_0, w64 (by omega) (by omega), Int.add_zero, lim_lim]
theorem lasts_true (ops : List law37_Op) (o : law37_Op) (u i : Str) (t : Int) (hf : fits ops) : law37_DeviceLasts ops o u i t = some true := by
  unfold law37_DeviceLasts
  rw [live37, Option.bind_some, if_neg (by simp)]
  rcases long_gate ops 20 hf with h | ⟨h, hm, ho⟩
  · rw [show (20 : Int) = ((20 : Nat) : Int) from rfl, h]; rfl
  rw [show (20 : Int) = ((20 : Nat) : Int) from rfl, h, Option.bind_some, if_neg (by simp)]
  rcases long_gate [o] 1 (by simp [fits]) with h' | ⟨h', _, ho'⟩
  · rw [show (1 : Int) = ((1 : Nat) : Int) from rfl, h']; rfl
  rw [show (1 : Int) = ((1 : Nat) : Int) from rfl, h', Option.bind_some, Option.bind_some, if_neg (by simp), great_eq _ 2 300 (fits_lit (by simp)) (by simp), Option.bind_some, Option.bind_some]
  obtain ⟨o1, o2, o3⟩ := ho' o (by simp)
  cases ht : tooLong [u, i] 300 with
  | true => rfl
  | false =>
    obtain ⟨l, g, last, e1, e2, e3⟩ := run_ok ops hf hm ho
    rw [if_neg (by simp), e1, Option.bind_some]
    simp only [trusted_eq, Option.bind_some, trust_eq _ _ _ _ _ _ _ (short_fits o1) (short_fits o2) (short_fits o3), clock_Add0_eq]
    unfold trustR
    by_cases he : trE l o.User o.ID o.Secret o.Until o.Now = 0
    · rw [if_pos he]
      have hfd := trL_find he
      have hge := gmax_ge (a := ((mfind (⟨o.User, o.ID⟩ : device_key) l).getD zr).until_) (b := lim o.Until)
      simp only [trusted_eq, Option.bind_some]
      have key : truD l u i t = true → truD (trL l o.User o.ID o.Secret o.Until) u i t = true := by
        intro ht
        by_cases hk : (⟨u, i⟩ : device_key) = ⟨o.User, o.ID⟩
        · unfold truD at ht ⊢
          rw [hk] at ht ⊢
          rw [hfd]
          rcases opt_cases (mfind (⟨o.User, o.ID⟩ : device_key) l) with hn | ⟨r, hr⟩
          · rw [hn] at ht; cases ht
          · rw [hr] at ht hge
            simp only [Option.getD_some, decide_eq_true_eq, trR, hr] at ht hge ⊢
            omega
        · unfold truD at ht ⊢
          rw [trL_ne hk]; exact ht
      have z : (if truD l u i t = true then some (!truD (trL l o.User o.ID o.Secret o.Until) u i t) else some false) = some false := by
        by_cases hb : truD l u i t = true
        · rw [if_pos hb, key hb]; rfl
        · rw [if_neg hb]
      rw [z, Option.bind_some, if_neg (by simp), if_neg (by simp), Option.bind_some]
      by_cases hge2 : lim t ≥ lim o.Until
      · rw [if_pos (by simpa using hge2)]; rfl
      · rw [if_neg (by simpa using hge2), Option.bind_some]
        have : truD (trL l o.User o.ID o.Secret o.Until) o.User o.ID t = true := by
          unfold truD; rw [hfd]; exact decide_eq_true (Int.lt_of_lt_of_le (by omega) hge.2.1)
        rw [this]
    · rw [if_neg he]
      simp only [trusted_eq, Option.bind_some]
      have z : (if truD l u i t = true then some (!truD l u i t) else some false) = some false := by
        by_cases hb : truD l u i t = true
        · rw [if_pos hb, hb]; rfl
        · rw [if_neg hb]
      rw [z, Option.bind_some, if_neg (by simp), if_pos (by simpa using he)]; rfl
theorem apart_loop (others_1 : List law37_Op) (hf : fits others_1) (ho : ∀ o ∈ others_1, shortOp o) (u i : Str) (now : Int) (la : DL) (ga : Int) (ha : Inv la ga 20) (last : Str) (hlast : last.length ≤ 300) :
    ∀ (r : List law37_Op) (k n N : Nat) (lb : DL) (gb : Int), others_1.drop k = r → r.length < n → Inv lb gb N → N + r.length < 100 → own u lb = own u la →
    law37_DeviceApart_L1 n others_1 u i now ⟨some la, ga⟩ ⟨some lb, gb⟩ last (others_1.length : Int) (k : Int) = some true := by
  unfold fits at hf
  intro r
  induction r with
  | nil =>
    intro k n N lb gb hd hn hb hN he
    obtain ⟨n, rfl⟩ : ∃ k, n = k + 1 := ⟨n - 1, by simp at hn; omega⟩
    have := drop_nil hd
    have hlen : (own u lb).length = (own u la).length := by rw [he]
    have hml : mineL u now lb = mineL u now la := by rw [mineL_own, he, ← mineL_own]
    have htr : truD lb u i now = truD la u i now := by rw [truD_own, he, ← truD_own]
    simp only [law37_DeviceApart_L1, show ¬ ((k : Int) < others_1.length) by omega, decide_false, Bool.false_eq_true, if_false, trusted_eq, Option.bind_some, list_eq ha, list_eq hb, hml, htr, drop_eq ha, drop_eq hb, hlen]
    have hsame : ref02_Same (sortS (mineL u now la)) (sortS (mineL u now la)) = some true := by
      have : (sortS (mineL u now la)).length < 1000 := by
        have h1 := (sortS_perm (mineL u now la)).length_eq
        have h2 := mineL_len u now la
        have h3 := ha.len
        omega
      unfold ref02_Same
      rw [if_neg (by simp)]
      have key : ∀ (r : List Str) (i n : Nat), (sortS (mineL u now la)).drop i = r → r.length < n → ref02_Same_L1 n (sortS (mineL u now la)) (sortS (mineL u now la)) (i : Int) = some true := by
        intro r
        induction r with
        | nil =>
          intro i n hd hn
          obtain ⟨n, rfl⟩ : ∃ k, n = k + 1 := ⟨n - 1, by simp at hn; omega⟩
          have := drop_nil hd
          simp only [ref02_Same_L1, show ¬ ((i : Int) < (sortS (mineL u now la)).length) by omega, decide_false, Bool.false_eq_true, if_false]
        | cons x r ih =>
          intro i n hd hn
          obtain ⟨n, rfl⟩ : ∃ k, n = k + 1 := ⟨n - 1, by simp at hn; omega⟩
          obtain ⟨h1, h2, h3⟩ := drop_more hd
          have hlt := drop_lt hd
          simp only [ref02_Same_L1, show ((i : Int) < (sortS (mineL u now la)).length) by omega, decide_true, if_true, idx_n, h2, Option.bind_some, w64n (show i < 9223372036854775807 by omega), beq_self_eq_true, Bool.not_true, Bool.false_eq_true, if_false]
          exact ih (i + 1) n h3 (by simp at hn; omega)
      exact key _ 0 fuel rfl (by rw [List.drop_zero]; unfold fuel; omega)
    have hb2 := inv_others hb u
    have hno : ∀ j, mfind (⟨u, j⟩ : device_key) (others u lb) = none := fun j => mfind_none.2 fun p hp e => by
      have := (List.mem_filter.1 hp).2
      rw [e] at this; simp at this
    have hml0 : mineL u now (others u lb) = [] := by
      unfold mineL others
      rw [List.filter_filter]
      have : (lb.filter fun a => ((a.1.user == u) && decide (lim now < a.2.until_)) && !(a.1.user == u)) = [] := List.filter_eq_nil_iff.2 fun p _ => by
        cases p.1.user == u <;> simp
      rw [this]; rfl
    have hfe : findR (others u lb) u i now = (zr, 6) := by unfold findR; rw [hno]
    have hch : chalR (others u lb) gb u i now = ([], 6, ⟨some (others u lb), gb⟩) := by unfold chalR; rw [hfe]; rfl
    have hlist0 : (sortS (mineL u 0 lb)).length ≤ (own u la).length := by
      rw [(sortS_perm _).length_eq, mineL_own, he]
      exact mineL_len _ _ _
    rw [hsame]
    simp only [bne_self_eq_false, Bool.false_eq_true, if_false, Option.bind_some, Bool.not_true]
    rw [if_neg (by simp; omega)]
    simp only [drop_eq ha, Option.bind_some, bne_self_eq_false, Bool.false_eq_true, if_false, challenge_eq hb2 (by omega : N < 100000), hch, list_eq hb2, hml0, trusted_eq, truD, hno]
    rfl
  | cons o r ih =>
    intro k n N lb gb hd hn hb hN he
    obtain ⟨n, rfl⟩ : ∃ k, n = k + 1 := ⟨n - 1, by simp at hn; omega⟩
    obtain ⟨h1, h2, h3⟩ := drop_more hd
    have hlt := drop_lt hd
    simp only [List.length_cons] at hn hN
    simp only [law37_DeviceApart_L1, show ((k : Int) < others_1.length) by omega, decide_true, if_true, idx_n, h2, Option.bind_some, law37_DeviceApart_B2, w64n (show k < 9223372036854775807 by omega)]
    by_cases hu : o.User = u
    · rw [if_neg (by simp [hu])]
      exact ih (k + 1) n N lb gb h3 (by omega) hb (by omega) he
    · rw [if_pos (by simpa using hu)]
      obtain ⟨x, l1, g1, e1, e2, e3, e4⟩ := do_ok hb (by omega) o last (ho o (List.mem_of_getElem? h2)) hlast
      rw [e1, Option.bind_some]
      exact ih (k + 1) n (N + 1) l1 g1 h3 (by omega) e2 (by omega) ((e4 u hu).trans he)
theorem apart_true (ops others_1 : List law37_Op) (u i : Str) (now : Int) (hf : fits ops) (hf2 : fits others_1) : law37_DeviceApart ops others_1 u i now = some true := by
  unfold law37_DeviceApart
  rw [live37, Option.bind_some, if_neg (by simp)]
  rcases long_gate ops 12 hf with h | ⟨h, hm, ho⟩
  · rw [show (12 : Int) = ((12 : Nat) : Int) from rfl, h]; rfl
  rw [show (12 : Int) = ((12 : Nat) : Int) from rfl, h, Option.bind_some, if_neg (by simp)]
  rcases long_gate others_1 12 hf2 with h' | ⟨h', hm', ho'⟩
  · rw [h']; rfl
  rw [h', Option.bind_some, Option.bind_some, if_neg (by simp), great_eq _ 2 300 (fits_lit (by simp)) (by simp), Option.bind_some, Option.bind_some]
  cases ht : tooLong [u, i] 300 with
  | true => rfl
  | false =>
    obtain ⟨l, g, last, e1, e2, e3⟩ := run_ok ops hf (by omega) ho
    rw [if_neg (by simp), e1, Option.bind_some, Option.bind_some]
    exact apart_loop others_1 hf2 ho' u i now l g e2 last e3 others_1 0 fuel 20 l g rfl (fuel_pos hf2) e2 (by omega) rfl
/-! ### challenges -/
def txt (f : Str) : Str := [117] ++ textS f
theorem chal_L3 (r0 : List law37_Op → device_Devices → List Str → List Str → Int → Int → Option Bool) (ops : List law37_Op) (d : device_Devices) (texts forms : List Str) (i : Nat) (o : law37_Op) (c : Str) (t16 t17 : Int)
    (hlen : forms.length = texts.length + 1) (hsm : texts.length ≤ 20) (hall : ∀ (k : Nat) f, forms[k]? = some f → k < texts.length → texts[k]? = some (txt f)) (hfs : ∀ f ∈ forms, f.length ≤ 1000)
    (hc : ∀ f, forms[texts.length]? = some f → c = txt f) (hi : ops[i]? = some o) (h1 : o.User.length ≤ 300) (h2 : o.ID.length ≤ 300) (hcu : c = uniqS (kk o.User o.ID) (texts.length + 1)) :
    ∀ (m k n : Nat), k + m = texts.length → m < n → law37_DeviceChallenges_L3 r0 n ops d texts forms (i : Int) c t16 t17 (texts.length : Int) (k : Int) = law37_DeviceChallenges_B2 r0 ops d (texts ++ [c]) forms t16 t17 := by
  intro m
  induction m with
  | zero =>
    intro k n hk hn
    obtain ⟨n, rfl⟩ : ∃ k, n = k + 1 := ⟨n - 1, by omega⟩
    simp only [law37_DeviceChallenges_L3, show ¬ ((k : Int) < texts.length) by omega, decide_false, Bool.false_eq_true, if_false, idx_n, hi, Option.bind_some]
    rw [chk_t (by simp [fitL]; omega), chk_t (by simp [fitS]; omega), chk_t (by simp [fitS]; omega)]
    have e : ((texts ++ [c]).length : Int) = ((texts.length + 1 : Nat) : Int) := by simp
    rw [e, unique_eq _ _ (by simp; omega) (by omega), Option.bind_some]
    have : uniqS (o.User ++ [124] ++ o.ID) (texts.length + 1) = c := hcu.symm
    rw [this]
    simp
  | succ m ih =>
    intro k n hk hn
    obtain ⟨n, rfl⟩ : ∃ k, n = k + 1 := ⟨n - 1, by omega⟩
    have hkt : k < texts.length := by omega
    have hkf : k < forms.length := by omega
    have f1 := List.getElem?_eq_getElem hkf
    have f2 := hall k _ f1 hkt
    have hlf : texts.length < forms.length := by omega
    have f3 := List.getElem?_eq_getElem hlf
    have f4 := hc _ f3
    have g1 := hfs _ (List.getElem_mem hkf)
    have g2 := hfs _ (List.getElem_mem hlf)
    simp only [law37_DeviceChallenges_L3, show ((k : Int) < texts.length) by omega, decide_true, if_true, idx_n, f1, f2, f3, Option.bind_some, digest_Text_eq _ (show fits forms[k] by unfold fits; omega), digest_Text_eq _ (show fits forms[texts.length] by unfold fits; omega), w64n (show k < 9223372036854775807 by omega)]
    have hz : (if (txt forms[k] == c) = true then some (!(textS forms[k] == textS forms[texts.length])) else some false) = some false := by
      by_cases hq : txt forms[k] = c
      · rw [if_pos (by simpa using hq)]
        rw [f4] at hq
        have : textS forms[k] = textS forms[texts.length] := by
          unfold txt at hq; exact List.append_cancel_left hq
        simp [this]
      · rw [if_neg (by simpa using hq)]
    rw [hz, Option.bind_some, if_neg (by simp)]
    exact ih (k + 1) n (by omega) (by omega)
theorem chal_loop (ops : List law37_Op) (hf : fits ops) (hm : ops.length ≤ 20) (ho : ∀ o ∈ ops, shortOp o) : ∀ (r : List law37_Op) (i n : Nat) (l : DL) (texts forms : List Str), ops.drop i = r → r.length < n → Inv l (texts.length : Int) 20 → texts.length + r.length ≤ 20 →
    forms.length = texts.length → (∀ (k : Nat) f, forms[k]? = some f → texts[k]? = some (txt f)) → (∀ f ∈ forms, f.length ≤ 1000) →
    law37_DeviceChallenges_L1 n ops ⟨some l, (texts.length : Int)⟩ texts forms (ops.length : Int) (i : Int) = some true := by
  unfold fits at hf
  intro r
  induction r with
  | nil =>
    intro i n l texts forms hd hn h hN hlen hall hfs
    obtain ⟨n, rfl⟩ : ∃ k, n = k + 1 := ⟨n - 1, by simp at hn; omega⟩
    have := drop_nil hd
    simp only [law37_DeviceChallenges_L1, show ¬ ((i : Int) < ops.length) by omega, decide_false, Bool.false_eq_true, if_false]
  | cons o r ih =>
    intro i n l texts forms hd hn h hN hlen hall hfs
    obtain ⟨n, rfl⟩ : ∃ k, n = k + 1 := ⟨n - 1, by simp at hn; omega⟩
    obtain ⟨h1, h2, h3⟩ := drop_more hd
    have hlt := drop_lt hd
    simp only [List.length_cons] at hn hN
    obtain ⟨o1, o2, o3⟩ := ho o (List.mem_of_getElem? h2)
    simp only [law37_DeviceChallenges_L1, show ((i : Int) < ops.length) by omega, decide_true, if_true, idx_n, h2, Option.bind_some, challenge_eq h (by omega : 20 < 100000)]
    by_cases he : (findR l o.User o.ID o.Now).2 = 0
    · obtain ⟨q, q1, q2, q3⟩ := find_ok he
      obtain ⟨l', g', e1, e2⟩ := chal_inv h o.User o.ID o.Now
      have hg : ((texts.length : Int) + 1).toNat = texts.length + 1 := by omega
      have hch : chalR l (texts.length : Int) o.User o.ID o.Now = (uniqS (kk o.User o.ID) (texts.length + 1), 0, ⟨some l', ((texts.length + 1 : Nat) : Int)⟩) ∧ Inv l' ((texts.length + 1 : Nat) : Int) 20 := by
        unfold chalR at e1 ⊢
        rw [if_pos he] at e1 ⊢
        simp only [device_Devices.mk.injEq, Option.some.injEq, hg] at e1 ⊢
        obtain ⟨e3, e4⟩ := e1
        subst e3; subst e4
        refine ⟨rfl, e2.nd, e2.len, e2.good, e2.g0, by omega⟩
      obtain ⟨hc1, hc2⟩ := hch
      simp only [hc1, bne_self_eq_false, Bool.false_eq_true, if_false]
      have hw : IntKind.i64.wrap ((texts.length : Int) + 1) = ((texts.length + 1 : Nat) : Int) := w64n (by omega)
      have hdl : (Lib.decDigits (texts.length + 1)).length ≤ 6 := dec20 (by omega)
      rw [hw, ref02_Int_eq _ (by omega), Option.bind_some, chk_t (by simp [fitS]; omega), chk_t (by simp [fitS]; omega), chk_t (by simp [fitS]; omega), chk_t (by simp [fitS]; omega), chk_t (by simp [fitL]; omega)]
      have hform : Lib.decDigits (texts.length + 1) ++ [58] ++ o.User ++ [124] ++ o.ID = Lib.decDigits (texts.length + 1) ++ [58] ++ kk o.User o.ID := by simp [kk]
      have hnew : ∀ (k : Nat) f, (forms ++ [Lib.decDigits (texts.length + 1) ++ [58] ++ o.User ++ [124] ++ o.ID])[k]? = some f → k < texts.length → texts[k]? = some (txt f) := fun k f hk hkt => by
        rw [List.getElem?_append_left (by omega)] at hk; exact hall k f hk
      have hlast : ∀ f, (forms ++ [Lib.decDigits (texts.length + 1) ++ [58] ++ o.User ++ [124] ++ o.ID])[texts.length]? = some f → uniqS (kk o.User o.ID) (texts.length + 1) = txt f := fun f hk => by
        rw [List.getElem?_append_right (by omega), show texts.length - forms.length = 0 by omega] at hk
        simp only [List.getElem?_cons_zero, Option.some.injEq] at hk
        rw [← hk, hform]; rfl
      have hfs2 : ∀ f ∈ forms ++ [Lib.decDigits (texts.length + 1) ++ [58] ++ o.User ++ [124] ++ o.ID], f.length ≤ 1000 := fun f hf => by
        rcases List.mem_append.1 hf with hf | hf
        · exact hfs f hf
        · simp only [List.mem_singleton] at hf; subst hf; simp; omega
      refine Eq.trans (chal_L3 _ ops _ texts _ i o _ _ _ (by simp [hlen]) (by omega) hnew hfs2 hlast h2 o1 o2 rfl texts.length 0 fuel (by omega) (by unfold fuel; omega)) ?_
      unfold law37_DeviceChallenges_B2
      rw [w64n (show i < 9223372036854775807 by omega)]
      have e5 : ((texts.length + 1 : Nat) : Int) = ((texts ++ [uniqS (kk o.User o.ID) (texts.length + 1)]).length : Int) := by simp
      rw [e5] at hc2 ⊢
      refine ih (i + 1) n l' _ _ h3 (by omega) hc2 (by simp; omega) (by simp [hlen]) (fun k f hk => ?_) hfs2
      by_cases hkt : k < texts.length
      · rw [List.getElem?_append_left hkt]; exact hnew k f hk hkt
      · have hkl := (List.getElem?_eq_some_iff.1 hk).1
        simp only [List.length_append, List.length_singleton] at hkl
        have hke : k = texts.length := by omega
        subst hke
        rw [List.getElem?_append_right (Nat.le_refl _), Nat.sub_self, ← hlast f hk]; rfl
    · have h0 : chalR l (texts.length : Int) o.User o.ID o.Now = ([], (findR l o.User o.ID o.Now).2, ⟨some l, (texts.length : Int)⟩) := by unfold chalR; rw [if_neg he]
      rw [h0, if_pos (by simpa using he), trust_eq _ _ _ _ _ _ _ (short_fits o1) (short_fits o2) (short_fits o3), Option.bind_some]
      obtain ⟨l', e1, e2, _⟩ := trust_inv h o.User o.ID o.Secret o.Until o.Now
      rw [e1]
      unfold law37_DeviceChallenges_B2
      rw [w64n (show i < 9223372036854775807 by omega)]
      exact ih (i + 1) n l' texts forms h3 (by omega) e2 (by omega) hlen hall hfs
theorem challenges_true (ops : List law37_Op) (hf : fits ops) : law37_DeviceChallenges ops = some true := by
  unfold law37_DeviceChallenges
  rw [live37, Option.bind_some, if_neg (by simp)]
  rcases long_gate ops 20 hf with h | ⟨h, hm, ho⟩
  · rw [show (20 : Int) = ((20 : Nat) : Int) from rfl, h]; rfl
  rw [show (20 : Int) = ((20 : Nat) : Int) from rfl, h, Option.bind_some, if_neg (by simp)]
  show (some (device_Devices.mk (some []) 0)).bind _ = _
  rw [Option.bind_some]
  exact chal_loop ops hf hm ho ops 0 fuel [] [] [] rfl (fuel_pos hf) (inv_new.mono (by omega)) (by simp; omega) rfl (fun k f hk => by simp at hk) (fun f hf => by cases hf)
end Go.KW.S
