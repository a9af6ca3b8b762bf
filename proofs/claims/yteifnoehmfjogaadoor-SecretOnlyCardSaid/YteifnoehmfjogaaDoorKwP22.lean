/- Own work: a part of the proofs of this seat. -/
import Derived.Test.YteifnoehmfjogaaDoorKwPlain
import Derived.Test.YteifnoehmfjogaaDoorKwMapP
import Derived.Test.YteifnoehmfjogaaDoorKwLS
import Derived.KernelRfl
import Derived.Lib.IndexMore
import Derived.Lib.CountLaws
import Derived.Laws.RangeString
import Derived.Laws.RangeAny
set_option linter.unusedVariables false
set_option linter.unusedSimpArgs false
namespace Go.KW.S
open Go Go.KW
/-! ### words -/
def isW (c : Int) : Bool := (((decide (c ≥ 65) && decide (c ≤ 90)) || (decide (c ≥ 97) && decide (c ≤ 122))) || (decide (c ≥ 48) && decide (c ≤ 57))) || c == 45 || c == 95 || c == 46 || c == 58
def word (s : Str) : Bool := s.all (fun u => isW u.toNat) && (decide (1 ≤ s.length) && decide (s.length ≤ 64))

theorem fold_Word_1_eq (c : Int) : fold_Word_1 c = some (isW c) := by
  simp only [fold_Word_1, fold_letter, fold_upper, fold_digit, isW, Option.bind_some]
  cases (decide (c ≥ 65) && decide (c ≤ 90)) <;> cases (decide (c ≥ 97) && decide (c ≤ 122)) <;> simp
theorem fold_made_eq (s : Str) (hs : fits s) : fold_made__Word_1 s = some (word s) := by
  have key : ∀ (r : Str) (i n : Nat), s.drop i = r → i ≤ s.length → r.length < n →
      fold_made__Word_1_L1 n s (s.length : Int) (i : Int) = some (r.all (fun u => isW u.toNat) && (decide (1 ≤ s.length) && decide (s.length ≤ 64))) := by
    intro r
    induction r with
    | nil =>
      intro i n hd hi hn
      obtain ⟨n, rfl⟩ : ∃ k, n = k + 1 := ⟨n - 1, by simp at hn; omega⟩
      have := drop_nil hd
      simp only [fold_made__Word_1_L1, show ¬ ((i : Int) < s.length) by omega, decide_false, Bool.false_eq_true, if_false, List.all_nil, Bool.true_and, Option.some.injEq]
      rw [Bool.eq_iff_iff]; cases s <;> simp <;> omega
    | cons u r ih =>
      intro i n hd hi hn
      obtain ⟨n, rfl⟩ : ∃ k, n = k + 1 := ⟨n - 1, by simp at hn; omega⟩
      obtain ⟨h1, h2, h3⟩ := drop_more hd
      have hlt := drop_lt hd
      have := hs; unfold fits at this
      simp only [fold_made__Word_1_L1, show ((i : Int) < s.length) by omega, decide_true, if_true, inb_n, h1, chk_true, byteAt_some h2, fold_Word_1_eq, Option.bind_some, w64n (show i < 9223372036854775807 by omega), List.all_cons]
      cases isW u.toNat with
      | false => simp
      | true => simpa using ih (i + 1) n h3 (by omega) (by simp at hn; omega)
  exact key s 0 fuel rfl (by omega) (fuel_pos hs)
theorem fold_Word_eq (s : Str) (hs : fits s) : fold_Word s = some (word s) := by
  simp [fold_Word, fold_made_eq s hs]

/-! ### values: printable strings -/
def prt (u : UInt8) : Bool := decide (32 ≤ u.toNat) && decide (u.toNat ≤ 126)
/-! ### digests, without the reference -/
theorem wrap_u64_range (x : Int) : 0 ≤ IntKind.u64.wrap x ∧ IntKind.u64.wrap x < 18446744073709551616 := by
  simp [IntKind.wrap, IntKind.bits, IntKind.signed]; omega
theorem bXor_range (a b : Int) : 0 ≤ bXor .u64 a b ∧ bXor .u64 a b < 18446744073709551616 := wrap_u64_range _
def sumL : Int → Str → Int
  | h, [] => h
  | h, u :: r => sumL (IntKind.u64.wrap ((bXor .u64 h (IntKind.u64.wrap (u.toNat : Int))) * 1099511628211)) r
def sumF (h : Int) : Int := bXor .u64 (IntKind.u64.wrap ((bXor .u64 (IntKind.u64.wrap ((bXor .u64 h (bShr .u64 h 33)) * 18397679294719823053)) (bShr .u64 (IntKind.u64.wrap ((bXor .u64 h (bShr .u64 h 33)) * 18397679294719823053)) 33)) * 14181476777654086739)) (bShr .u64 (IntKind.u64.wrap ((bXor .u64 (IntKind.u64.wrap ((bXor .u64 h (bShr .u64 h 33)) * 18397679294719823053)) (bShr .u64 (IntKind.u64.wrap ((bXor .u64 h (bShr .u64 h 33)) * 18397679294719823053)) 33)) * 14181476777654086739)) 33)
/-- the digest of a string -/
def sumS (s : Str) : Nat := (sumF (sumL 14695981039346656037 s)).toNat
theorem sumF_range (h : Int) : 0 ≤ sumF h ∧ sumF h < 18446744073709551616 := bXor_range _ _
theorem sumS_lt (s : Str) : sumS s < 18446744073709551616 := by have := sumF_range (sumL 14695981039346656037 s); unfold sumS; omega
theorem sumS_int (s : Str) : (sumS s : Int) = sumF (sumL 14695981039346656037 s) := Int.toNat_of_nonneg (sumF_range _).1
theorem dsum_loop (s : Str) (hs : fits s) : ∀ (r : Str) (i n : Nat) (h : Int), s.drop i = r → i ≤ s.length → r.length < n →
    digest_Sum_L1 n s h (s.length : Int) (i : Int) = some (sumF (sumL h r)) := by
  unfold fits at hs
  intro r
  induction r with
  | nil =>
    intro i n h hd hi hn
    obtain ⟨n, rfl⟩ : ∃ k, n = k + 1 := ⟨n - 1, by simp at hn; omega⟩
    have := drop_nil hd
    simp only [digest_Sum_L1, show ¬ ((i : Int) < s.length) by omega, decide_false, Bool.false_eq_true, if_false]
    rfl
  | cons u r ih =>
    intro i n h hd hi hn
    obtain ⟨n, rfl⟩ : ∃ k, n = k + 1 := ⟨n - 1, by simp at hn; omega⟩
    obtain ⟨h1, h2, h3⟩ := drop_more hd
    have hlt := drop_lt hd
    simp only [digest_Sum_L1, show ((i : Int) < s.length) by omega, decide_true, if_true, inb_n, h1, chk_true, w64n (show i < 9223372036854775807 by omega), byteAt_some h2, sumL]
    exact ih (i + 1) n _ h3 (by omega) (by simp at hn; omega)
theorem digest_Sum_eq (s : Str) (hs : fits s) : digest_Sum s = some (sumS s : Int) := by
  rw [sumS_int]; exact dsum_loop s hs s 0 fuel _ rfl (by omega) (fuel_pos hs)
/-- a hexadecimal digit -/
def hexd (m : Nat) : UInt8 := if m < 10 then UInt8.ofNat (48 + m) else UInt8.ofNat (87 + m)
def hexL : Nat → Nat → Str
  | 0, _ => []
  | t + 1, m => hexd (m / 16 ^ t % 16) :: hexL t m
def hexS (m : Nat) : Str := hexL 16 m
theorem hexL_len : ∀ t m, (hexL t m).length = t
  | 0, _ => rfl
  | t + 1, m => by simp [hexL, hexL_len t m]
theorem hex_tab : ∀ j : Nat, j < 16 → tab_digest_digits[j]? = some ((hexd j).toNat : Int) := by decide
theorem bAnd15 (x : Nat) (hx : x < 18446744073709551616) : bAnd .u64 (x : Int) 15 = ((x % 16 : Nat) : Int) := by
  unfold bAnd
  have e1 : (BitVec.ofInt 64 (x : Int)) = BitVec.ofNat 64 x := by simp
  have e2 : (BitVec.ofInt 64 (15 : Int)) = BitVec.ofNat 64 15 := rfl
  show IntKind.u64.wrap (((BitVec.ofInt 64 (x : Int) &&& BitVec.ofInt 64 15).toNat : Nat) : Int) = _
  rw [e1, e2, BitVec.toNat_and, BitVec.toNat_ofNat, BitVec.toNat_ofNat, Nat.mod_eq_of_lt hx]
  have e3 : x &&& (15 % 2 ^ 64) = x % 16 := Nat.and_two_pow_sub_one_eq_mod x 4
  rw [e3, wu64 (by omega) (by have := Nat.mod_lt x (show 16 > 0 by omega); omega)]
theorem bShr4 (x t : Nat) (ht : t < 16) : bShr .u64 (x : Int) ((4 * t : Nat) : Int) = ((x / 16 ^ t : Nat) : Int) := by
  unfold bShr
  have e1 : min (((4 * t : Nat) : Int).toNat) (IntKind.u64.bits) = 4 * t := by simp [IntKind.bits]; omega
  rw [e1, Int.fdiv_eq_ediv_of_nonneg _ (Int.le_of_lt (Int.pow_pos (by omega)))]
  rw [show (2 : Int) ^ (4 * t) = ((16 ^ t : Nat) : Int) by rw [Int.pow_mul]; simp]
  simp
theorem Hex_loop (m : Nat) (hm : m < 18446744073709551616) : ∀ (k t n : Nat), t + k = 16 → k < n →
    digest_Hex_L1 n (m : Int) (List.replicate (16 - t) 0 ++ (hexL t m).map fun u => (u.toNat : Int)) (t : Int) = some (hexS m) := by
  intro k
  induction k with
  | zero =>
    intro t n ht hn
    obtain ⟨n, rfl⟩ : ∃ k, n = k + 1 := ⟨n - 1, by omega⟩
    have : t = 16 := by omega
    subst this
    have hb : bytesStr ((hexL 16 m).map fun u => (u.toNat : Int)) = hexL 16 m := by
      unfold bytesStr
      rw [List.map_map]
      exact List.map_id'' (fun u => by simp) _
    simp [digest_Hex_L1, hexL_len, chk, hb, hexS]
  | succ k ih =>
    intro t n ht hn
    obtain ⟨n, rfl⟩ : ∃ k, n = k + 1 := ⟨n - 1, by omega⟩
    have hx : m / 16 ^ t < 18446744073709551616 := Nat.lt_of_le_of_lt (Nat.div_le_self _ _) hm
    have e1 : IntKind.i64.wrap (4 * (t : Int)) = ((4 * t : Nat) : Int) := by rw [w64 (by omega) (by omega)]; omega
    have e2 : bAnd .u64 (bShr .u64 (m : Int) ((4 * t : Nat) : Int)) 15 = ((m / 16 ^ t % 16 : Nat) : Int) := by rw [bShr4 m t (by omega), bAnd15 _ hx]
    have h16 : m / 16 ^ t % 16 < 16 := Nat.mod_lt _ (by omega)
    have e3 : IntKind.i64.wrap (15 - (t : Int)) = ((15 - t : Nat) : Int) := by rw [w64 (by omega) (by omega)]; omega
    have hlen : (List.replicate (16 - t) (0 : Int) ++ (hexL t m).map fun u => (u.toNat : Int)).length = 16 := by simp [hexL_len]; omega
    have e4 : setAt (List.replicate (16 - t) (0 : Int) ++ (hexL t m).map fun u => (u.toNat : Int)) ((15 - t : Nat) : Int) ((hexd (m / 16 ^ t % 16)).toNat : Int) =
        List.replicate (16 - (t + 1)) (0 : Int) ++ (hexL (t + 1) m).map fun u => (u.toNat : Int) := by
      unfold setAt
      rw [Int.toNat_natCast, show 16 - t = (15 - t) + 1 by omega, List.replicate_succ', List.append_assoc, List.set_append_right _ _ (by simp)]
      simp [hexL, show 16 - (t + 1) = 15 - t by omega]
    have e5 : inb ((m / 16 ^ t % 16 : Nat) : Int) 16 = true := by rw [inb_iff]; omega
    have e6 : inb ((15 - t : Nat) : Int) 16 = true := by rw [inb_iff]; omega
    have e7 : inb ((15 - t : Nat) : Int) ((List.replicate (16 - t) (0 : Int) ++ (hexL t m).map fun u => (u.toNat : Int)).length : Nat) = true := by rw [hlen, inb_iff]; omega
    simp only [digest_Hex_L1, show ((t : Int) < 16) by omega, decide_true, if_true, e1, show (0 : Int) ≤ ((4 * t : Nat) : Int) by omega, chk_true, e2, e5, idx_n, hex_tab _ h16, Option.bind_some, e3, e6, e7, e4, w64n (show t < 9223372036854775807 by omega)]
    exact ih (t + 1) n (by omega) (by omega)
theorem digest_Hex_eq (m : Nat) (hm : m < 18446744073709551616) : digest_Hex (m : Int) = some (hexS m) := Hex_loop m hm 16 0 fuel rfl (by unfold fuel; omega)
/-- the hexadecimal digest -/
def textS (s : Str) : Str := hexS (sumS s)
theorem textS_len (s : Str) : (textS s).length = 16 := hexL_len _ _
theorem digest_Text_eq (s : Str) (hs : fits s) : digest_Text s = some (textS s) := by
  unfold textS digest_Text
  rw [digest_Sum_eq s hs, Option.bind_some, digest_Hex_eq (sumS s) (sumS_lt s), Option.bind_some]
/-! ### verifiers -/
def hexB (u : UInt8) : Bool := (decide (48 ≤ u.toNat) && decide (u.toNat ≤ 57)) || (decide (97 ≤ u.toNat) && decide (u.toNat ≤ 102))
def hc4 (b : Bool) : Int := if b then 0 else 4
def hexOK (s : Str) : Bool := decide (s.length = 16) && s.all hexB
def dvF : Nat → Nat → Int → Int → Int
  | 0, _, v, _ => v
  | k + 1, t, v, b => dvF k (t + 1) (if (tab_digest_digits[t]?).getD 0 == b then (t : Int) else v) b
theorem dvF_hex : ∀ b : Nat, b < 256 → decide (dvF 16 0 (-1) (b : Int) < 0) = !hexB (UInt8.ofNat b) := by decide +kernel
theorem dvF_hexU (u : UInt8) : decide (dvF 16 0 (-1) (u.toNat : Int) < 0) = !hexB u := by
  have := dvF_hex u.toNat u.toNat_lt
  rwa [UInt8.ofNat_toNat] at this
theorem ReadHex_L2_eq (r0 : Str → Int → Int → Int → Option (Int × Int)) (s : Str) (i : Nat) (u : UInt8) (hu : s[i]? = some u) (n4 t13 t14 : Int) : ∀ (k t n : Nat) (v : Int), t + k = 16 → k < n →
    digest_ReadHex_L2 r0 n s n4 (i : Int) v t13 t14 (t : Int) =
      if decide (dvF k t v (u.toNat : Int) < 0) then some (0, 4) else r0 s (bOr .u64 (bShl .u64 n4 4) (IntKind.u64.wrap (dvF k t v (u.toNat : Int)))) t13 (IntKind.i64.wrap (t14 + 1)) := by
  have hi := (List.getElem?_eq_some_iff.1 hu).1
  intro k
  induction k with
  | zero =>
    intro t n v ht hn
    obtain ⟨n, rfl⟩ : ∃ k, n = k + 1 := ⟨n - 1, by omega⟩
    simp only [digest_ReadHex_L2, show ¬ ((t : Int) < 16) by omega, decide_false, Bool.false_eq_true, if_false, dvF]
    rfl
  | succ k ih =>
    intro t n v ht hn
    obtain ⟨n, rfl⟩ : ∃ k, n = k + 1 := ⟨n - 1, by omega⟩
    have hlt : t < tab_digest_digits.length := by show t < 16; omega
    have hg : tab_digest_digits[t]? = some tab_digest_digits[t] := List.getElem?_eq_getElem hlt
    simp only [digest_ReadHex_L2, show ((t : Int) < 16) by omega, decide_true, if_true, idx_n, hg, Option.bind_some, inb_n, hi, chk_true, byteAt_some hu, digest_ReadHex_B3, w64n (show t < 9223372036854775807 by omega), dvF, Option.getD_some]
    split
    · exact ih (t + 1) n _ (by omega) (by omega)
    · exact ih (t + 1) n _ (by omega) (by omega)
theorem ReadHex_loop (s : Str) (hs : s.length = 16) : ∀ (r : Str) (i n : Nat) (n4 : Int), s.drop i = r → r.length < n →
    ∃ v, digest_ReadHex_L1 n s n4 (s.length : Int) (i : Int) = some (v, hc4 (r.all hexB)) := by
  intro r
  induction r with
  | nil =>
    intro i n n4 hd hn
    obtain ⟨n, rfl⟩ : ∃ k, n = k + 1 := ⟨n - 1, by simp at hn; omega⟩
    have := drop_nil hd
    exact ⟨n4, by simp only [digest_ReadHex_L1, show ¬ ((i : Int) < s.length) by omega, decide_false, Bool.false_eq_true, if_false]; rfl⟩
  | cons u r ih =>
    intro i n n4 hd hn
    obtain ⟨n, rfl⟩ : ∃ k, n = k + 1 := ⟨n - 1, by simp at hn; omega⟩
    obtain ⟨h1, h2, h3⟩ := drop_more hd
    have hlt := drop_lt hd
    simp only [digest_ReadHex_L1, show ((i : Int) < s.length) by omega, decide_true, if_true]
    have := ReadHex_L2_eq (digest_ReadHex_L1 n) s i u h2 n4 (s.length : Int) (i : Int) 16 0 fuel (-1) rfl (by unfold fuel; omega)
    rw [show ((0 : Nat) : Int) = 0 from rfl] at this
    rw [this, dvF_hexU, List.all_cons]
    cases hx : hexB u with
    | false => exact ⟨0, rfl⟩
    | true =>
      simp only [Bool.not_true, Bool.false_eq_true, if_false, w64n (show i < 9223372036854775807 by omega), Bool.true_and]
      exact ih (i + 1) n _ h3 (by simp at hn; omega)
theorem digest_ReadHex_eq (s : Str) : ∃ v, digest_ReadHex s = some (v, hc4 (hexOK s)) := by
  unfold digest_ReadHex hexOK
  by_cases h : s.length = 16
  · obtain ⟨v, hv⟩ := ReadHex_loop s h s 0 fuel 0 rfl (by rw [h]; unfold fuel; omega)
    refine ⟨v, ?_⟩
    have h16 : ((s.length : Int) != 16) = false := by simp [h]
    rw [h16, if_neg (by simp)]
    have hv' : digest_ReadHex_L1 fuel s 0 (s.length : Int) 0 = _ := hv
    rw [hv', h]; simp
  · have h16 : ((s.length : Int) != 16) = true := by simp; omega
    refine ⟨0, ?_⟩
    rw [h16, if_pos rfl]; simp [h, hc4]
def vldS (v : api_Verifier) : Bool := ((word v.Salt && decide (v.Rounds ≥ 1)) && decide (v.Rounds ≤ 64)) && hexOK v.Hash
theorem hex4 (b : Bool) : (hc4 b == 0) = b := by cases b <;> rfl
theorem secret_Valid_eq (v : api_Verifier) (hs : fits v.Salt) : secret_Valid v = some (vldS v) := by
  obtain ⟨x, hx⟩ := digest_ReadHex_eq v.Hash
  unfold secret_Valid vldS
  rw [hx, Option.bind_some, fold_Word_eq _ hs, Option.bind_some]
  simp only [hex4]
/-! ### passwords -/
def pwS (s : Str) : Bool := s.all prt && (decide (8 ≤ s.length) && decide (s.length ≤ 256))
theorem prt_byte (u : UInt8) (b : Option Bool) : (Option.bind (if decide ((u.toNat : Int) < 32) = true then some true else some (decide ((u.toNat : Int) > 126))) fun z5 => if z5 = true then some false else b) = if prt u then b else some false := by
  unfold prt
  by_cases h1 : u.toNat < 32
  · rw [if_pos (decide_eq_true (by omega))]
    simp [show ¬ 32 ≤ u.toNat by omega]
  · rw [if_neg (by simp; omega)]
    by_cases h2 : u.toNat > 126
    · simp [show ¬ u.toNat ≤ 126 by omega, show (126 : Int) < u.toNat by omega]
    · simp [show u.toNat ≤ 126 by omega, show 32 ≤ u.toNat by omega, show ¬ (126 : Int) < u.toNat by omega]
theorem isPassword_loop (s : Str) (hs : fits s) : ∀ (r : Str) (i n : Nat), s.drop i = r → i ≤ s.length → r.length < n →
    secret_isPassword_L1 n s (s.length : Int) (i : Int) = some (r.all prt && (decide (8 ≤ s.length) && decide (s.length ≤ 256))) := by
  unfold fits at hs
  intro r
  induction r with
  | nil =>
    intro i n hd hi hn
    obtain ⟨n, rfl⟩ : ∃ k, n = k + 1 := ⟨n - 1, by simp at hn; omega⟩
    have := drop_nil hd
    simp only [secret_isPassword_L1, show ¬ ((i : Int) < s.length) by omega, decide_false, Bool.false_eq_true, if_false, List.all_nil, Bool.true_and, Option.some.injEq]
    congr 1
    · rw [decide_eq_decide]; omega
    · rw [decide_eq_decide]; omega
  | cons u r ih =>
    intro i n hd hi hn
    obtain ⟨n, rfl⟩ : ∃ k, n = k + 1 := ⟨n - 1, by simp at hn; omega⟩
    obtain ⟨h1, h2, h3⟩ := drop_more hd
    have hlt := drop_lt hd
    simp only [secret_isPassword_L1, show ((i : Int) < s.length) by omega, decide_true, if_true, inb_n, h1, chk_true, byteAt_some h2, w64n (show i < 9223372036854775807 by omega), prt_byte, List.all_cons]
    cases hp : prt u with
    | false => rfl
    | true => simp only [if_true, Bool.true_and]; exact ih (i + 1) n h3 (by omega) (by simp at hn; omega)
theorem secret_isPassword_eq (s : Str) (hs : fits s) : secret_isPassword s = some (pwS s) := isPassword_loop s hs s 0 fuel rfl (by omega) (fuel_pos hs)
/-! ### iterated digests -/
def itN (salt : Str) : Nat → Str → Str
  | 0, h => h
  | n + 1, h => itN salt n (textS (h ++ [124] ++ salt))
def itS (salt s : Str) (r : Int) : Str := itN salt (gmin (gmax r 0) 64).toNat (textS (salt ++ [124] ++ s))
theorem Iterate_loop (salt : Str) (hs : salt.length ≤ 1000000) (N : Nat) (hN : N ≤ 64) : ∀ (k i n : Nat) (h : Str), i + k = N → k < n → h.length = 16 →
    digest_Iterate_L1 n salt h (N : Int) (i : Int) = some (itN salt k h) := by
  intro k
  induction k with
  | zero =>
    intro i n h hi hn hh
    obtain ⟨n, rfl⟩ : ∃ k, n = k + 1 := ⟨n - 1, by omega⟩
    simp only [digest_Iterate_L1, show ¬ ((i : Int) < (N : Int)) by omega, decide_false, Bool.false_eq_true, if_false, itN]
  | succ k ih =>
    intro i n h hi hn hh
    obtain ⟨n, rfl⟩ : ∃ k, n = k + 1 := ⟨n - 1, by omega⟩
    simp only [digest_Iterate_L1, show ((i : Int) < (N : Int)) by omega, decide_true, if_true, itN]
    rw [chk_t (by simp [fitS]; omega), chk_t (by simp [fitS]; omega), digest_Text_eq _ (by unfold fits; simp; omega), Option.bind_some, w64n (by omega)]
    exact ih (i + 1) n _ (by omega) (by omega) (textS_len _)
theorem digest_Iterate_eq (salt s : Str) (r : Int) (h1 : salt.length ≤ 1000000) (h2 : s.length ≤ 1000000) : digest_Iterate salt s r = some (itS salt s r) := by
  unfold digest_Iterate itS
  rw [chk_t (by simp [fitS]; omega), chk_t (by simp [fitS]; omega), digest_Text_eq _ (by unfold fits; simp; omega), Option.bind_some]
  have hr : 0 ≤ gmin (gmax r 0) 64 ∧ gmin (gmax r 0) 64 ≤ 64 := by unfold gmin gmax; split <;> split <;> omega
  have he : gmin (gmax r 0) 64 = ((gmin (gmax r 0) 64).toNat : Int) := by omega
  have := Iterate_loop salt h1 (gmin (gmax r 0) 64).toNat (by omega) (gmin (gmax r 0) 64).toNat 0 fuel (textS (salt ++ [124] ++ s)) (by omega) (by unfold fuel; omega) (textS_len _)
  rw [← he] at this
  exact this
def chkS (v : api_Verifier) (p : Str) : Bool := (vldS v && pwS p) && v.Hash == itS v.Salt p v.Rounds
theorem vldS_salt {v : api_Verifier} (h : vldS v = true) : v.Salt.length ≤ 64 := by
  simp only [vldS, word, Bool.and_eq_true, decide_eq_true_eq] at h; exact h.1.1.1.2.2
theorem pwS_len {p : Str} (h : pwS p = true) : p.length ≤ 256 := by
  simp only [pwS, Bool.and_eq_true, decide_eq_true_eq] at h; exact h.2.2
theorem secret_Check_eq (v : api_Verifier) (p : Str) (hs : fits v.Salt) (hp : fits p) : secret_Check v p = some (chkS v p) := by
  unfold secret_Check chkS
  rw [secret_Valid_eq v hs, Option.bind_some]
  cases h1 : vldS v with
  | false => rfl
  | true =>
    rw [if_pos rfl, secret_isPassword_eq p hp]
    cases h2 : pwS p with
    | false => rfl
    | true =>
      have a1 := vldS_salt h1
      have a2 := pwS_len h2
      simp only [Option.bind_some, if_true, digest_Iterate_eq v.Salt p v.Rounds (by omega) (by omega), Bool.true_and]
def zvS : api_Verifier := ⟨[], 0, []⟩
def makS (p salt : Str) (r : Int) : api_Verifier × Int :=
  if (!word salt || decide (r < 1)) || decide (r > 64) then (zvS, 2) else if !pwS p then (zvS, 4) else (⟨salt, r, itS salt p r⟩, 0)
theorem secret_Make_eq (p salt : Str) (r : Int) (hp : fits p) (hs : fits salt) : secret_Make p salt r = some (makS p salt r) := by
  unfold secret_Make makS
  rw [fold_Word_eq salt hs, Option.bind_some]
  cases h : (!word salt || decide (r < 1)) || decide (r > 64) with
  | true => rfl
  | false =>
    simp only [Bool.false_eq_true, if_false, secret_isPassword_eq p hp, Option.bind_some]
    cases h2 : pwS p with
    | false => rfl
    | true =>
      simp only [Bool.or_eq_false_iff, Bool.not_eq_false'] at h
      have a1 : salt.length ≤ 64 := by have := h.1.1; simp only [word, Bool.and_eq_true, decide_eq_true_eq] at this; exact this.2.2
      have a2 := pwS_len h2
      simp only [Bool.not_true, Bool.false_eq_true, if_false, digest_Iterate_eq salt p r (by omega) (by omega), Option.bind_some]
theorem put_set {K V : Type} [DecidableEq K] {key : K} {r x : V} : ∀ {l : List (K × V)} {k : Nat}, l[k]? = some (key, r) → (∀ q ∈ l.take k, q.1 ≠ key) → mputL key x l = l.set k (key, x)
  | [], k, h, _ => by simp at h
  | p :: l, 0, h, _ => by
    simp at h; subst h
    simp [mputL]
  | p :: l, k + 1, h, ht => by
    have hp := ht p (by simp)
    unfold mputL
    rw [if_neg (fun e => hp e.symm), put_set (k := k) (by simpa using h) (fun q hq => ht q (by simp [hq]))]
    rfl
theorem put_none {K V : Type} [DecidableEq K] {key : K} {x : V} : ∀ {l : List (K × V)}, mfind key l = none → mputL key x l = l ++ [(key, x)]
  | [], _ => rfl
  | p :: l, h => by
    unfold mfind at h
    split at h
    · cases h
    · rename_i e
      unfold mputL
      rw [if_neg e, put_none h]; rfl
/-! ### locks -/
theorem opt_cases {α : Type} (o : Option α) : o = none ∨ ∃ r, o = some r := by cases o <;> simp
abbrev LL := List (Str × secret_record)
def one (w now t : Int) : Bool := decide (t ≤ now) && decide (now - t < w)
structure goodR (r : secret_record) : Prop where
  len : r.times.length ≤ 256
  rng : ∀ t ∈ r.times, 0 ≤ t ∧ t ≤ 1099511627776
def zr : secret_record := ⟨[], 0⟩
theorem goodR_z : goodR zr := ⟨by simp [zr], fun t h => by simp [zr] at h⟩
structure InvL (l : LL) : Prop where
  nd : nodupK l
  len : l.length ≤ 256
  good : ∀ p ∈ l, goodR p.2
theorem InvL.get {l : LL} (h : InvL l) (u : Str) : goodR ((mfind u l).getD zr) := by
  rcases opt_cases (mfind u l) with e | ⟨r, e⟩
  · rw [e]; exact goodR_z
  · rw [e]; exact h.good _ (mfind_mem e)
/-! ### the specification's locks -/
abbrev toRec (p : Str × secret_record) : ref22_record := ⟨p.1, p.2.times, p.2.until_⟩
structure AtL (l : LL) (u : Str) (k : Nat) (r : secret_record) : Prop where
  get : l[k]? = some (u, r)
  pre : ∀ q ∈ l.take k, q.1 ≠ u
theorem AtL.lt {l : LL} {u : Str} {k : Nat} {r : secret_record} (h : AtL l u k r) : k < l.length := (List.getElem?_eq_some_iff.1 h.get).1
theorem AtL.put {l : LL} {u : Str} {k : Nat} {r x : secret_record} (h : AtL l u k r) : setAt (l.map toRec) (k : Int) (toRec (u, x)) = (mputL u x l).map toRec := by
  rw [put_set h.get h.pre, List.map_set]
  simp [setAt]
theorem AtL.next {l : LL} {u : Str} {k : Nat} {r : secret_record} (h : AtL l u k r) (x : secret_record) : AtL (mputL u x l) u k x := by
  have hlt := h.lt
  rw [put_set h.get h.pre]
  refine ⟨by rw [List.getElem?_set_self hlt], fun q hq => ?_⟩
  rw [List.take_set_of_le (Nat.le_refl _)] at hq
  exact h.pre q hq
theorem awake22 : law22_awake = some true := by kernel_rfl
def nd : List Str → Bool
  | [] => true
  | x :: r => !r.contains x && nd r
/-! ### only this password -/
theorem hexd_hex : ∀ j : Nat, j < 16 → hexB (hexd j) = true := by decide
theorem hexL_hex : ∀ t m, (hexL t m).all hexB = true
  | 0, _ => rfl
  | t + 1, m => by
    simp only [hexL, List.all_cons, Bool.and_eq_true]
    exact ⟨hexd_hex _ (Nat.mod_lt _ (by omega)), hexL_hex t m⟩
theorem textS_hex (s : Str) : hexOK (textS s) = true := by
  unfold hexOK
  rw [textS_len]
  simp only [decide_true, Bool.true_and]
  exact hexL_hex 16 _
theorem itN_hex (salt : Str) : ∀ (n : Nat) (h : Str), hexOK h = true → hexOK (itN salt n h) = true
  | 0, _, h => h
  | n + 1, _, _ => itN_hex salt n _ (textS_hex _)
theorem itS_hex (salt s : Str) (r : Int) : hexOK (itS salt s r) = true := itN_hex _ _ _ (textS_hex _)
theorem makS_ok {p salt : Str} {r : Int} (h : (makS p salt r).2 = 0) : makS p salt r = (⟨salt, r, itS salt p r⟩, 0) ∧ vldS ⟨salt, r, itS salt p r⟩ = true ∧ pwS p = true ∧ 1 ≤ r ∧ r ≤ 64 ∧ word salt = true := by
  unfold makS at h ⊢
  by_cases h1 : ((!word salt || decide (r < 1)) || decide (r > 64)) = true
  · rw [if_pos h1] at h; cases h
  rw [if_neg h1] at h ⊢
  by_cases h2 : (!pwS p) = true
  · rw [if_pos h2] at h; cases h
  rw [if_neg h2]
  simp only [Bool.or_eq_true, decide_eq_true_eq, not_or, Bool.not_eq_true', Bool.not_eq_false] at h1
  refine ⟨rfl, ?_, by simpa using h2, by omega, by omega, h1.1.1⟩
  unfold vldS
  simp only [h1.1.1, itS_hex, Bool.true_and, Bool.and_true, Bool.and_eq_true, decide_eq_true_eq]
  omega
theorem itN_0 (salt h : Str) : itN salt 0 h = h := rfl
theorem itN_1 (salt h : Str) (n : Nat) : itN salt (n + 1) h = itN salt n (textS (h ++ [124] ++ salt)) := rfl
theorem only_loop (salt : Str) (hs : salt.length ≤ 400) (R : Nat) (hR : R ≤ 64) : ∀ (k i n : Nat) (a b : Str), R - i = k → k < n → i ≤ R → a.length ≤ 1000 → b.length ≤ 1000 → a ≠ b → itN salt (R - i) (textS a) = itN salt (R - i) (textS b) → law22_SecretOnly_L1 n salt (R : Int) a b (i : Int) = some true := by
  intro k
  induction k with
  | zero =>
    intro i n a b hk hn hi ha hb hne he
    obtain ⟨n, rfl⟩ : ∃ k, n = k + 1 := ⟨n - 1, by omega⟩
    have e : i = R := by omega
    subst e
    rw [Nat.sub_self, itN_0, itN_0] at he
    unfold law22_SecretOnly_L1
    rw [if_pos (by simp), digest_Text_eq a (by unfold fits; omega), digest_Text_eq b (by unfold fits; omega), Option.bind_some, Option.bind_some, if_pos (by simp [hne, he]), awake22]; rfl
  | succ k ih =>
    intro i n a b hk hn hi ha hb hne he
    obtain ⟨n, rfl⟩ : ∃ k, n = k + 1 := ⟨n - 1, by omega⟩
    unfold law22_SecretOnly_L1
    rw [if_pos (by simp; omega), digest_Text_eq a (by unfold fits; omega), digest_Text_eq b (by unfold fits; omega), Option.bind_some, Option.bind_some]
    by_cases ht : textS a = textS b
    · rw [if_pos (by simp [hne, ht]), awake22]; rfl
    · have l1 := textS_len a
      have l2 := textS_len b
      rw [if_neg (by simp [ht]), chk_t (by simp [fitS]; omega), chk_t (by simp [fitS]; omega), chk_t (by simp [fitS]; omega), chk_t (by simp [fitS]; omega), w64n (show i < 9223372036854775807 by omega)]
      have e1 : R - i = (R - (i + 1)) + 1 := by omega
      rw [e1, itN_1, itN_1] at he
      refine ih (i + 1) n _ _ (by omega) (by omega) (by omega) (by simp; omega) (by simp; omega) (fun h => ht ?_) he
      rw [List.append_assoc, List.append_assoc] at h
      exact (List.append_inj h (by rw [l1, l2])).1
theorem only_true (p o salt : Str) (r : Int) : law22_SecretOnly p o salt r = some true := by
  unfold law22_SecretOnly
  by_cases h1 : p.length > 400
  · rw [if_pos (by simp; omega), awake22, Option.bind_some]
  by_cases h2 : o.length > 400
  · rw [if_pos (by simp; omega), awake22, Option.bind_some]
  by_cases h3 : salt.length > 400
  · rw [if_pos (by simp; omega), awake22, Option.bind_some]
  have hp : fits p := by unfold fits; omega
  have ho : fits o := by unfold fits; omega
  have hs : fits salt := by unfold fits; omega
  rw [if_neg (by simp; omega), secret_Make_eq p salt r hp hs, Option.bind_some]
  by_cases hE : (makS p salt r).2 = 0
  · obtain ⟨e1, e2, e3, e4, e5, e6⟩ := makS_ok hE
    have hck : chkS ⟨salt, r, itS salt p r⟩ p = true := by unfold chkS; rw [e2, e3]; simp
    rw [e1]
    simp only
    rw [if_neg (by decide), secret_Check_eq _ p hs hp, Option.bind_some, hck, if_neg (by simp)]
    by_cases hop : o = p
    · rw [if_pos (by simpa using hop), Option.bind_some, if_pos rfl, awake22]; rfl
    rw [if_neg (by simpa using hop), secret_Check_eq _ o hs ho, Option.bind_some, Option.bind_some]
    cases hco : chkS ⟨salt, r, itS salt p r⟩ o with
    | false => rw [if_pos (by rfl), awake22]; rfl
    | true =>
      rw [if_neg (by simp), chk_t (by simp [fitS]; omega), chk_t (by simp [fitS]; omega), chk_t (by simp [fitS]; omega), chk_t (by simp [fitS]; omega)]
      unfold chkS at hco
      simp only [Bool.and_eq_true, beq_iff_eq] at hco
      have hit := hco.2
      unfold itS at hit
      obtain ⟨R, rfl⟩ : ∃ R : Nat, r = (R : Int) := ⟨r.toNat, by omega⟩
      have hg : (gmin (gmax (R : Int) 0) 64).toNat = R := by unfold gmin gmax; split <;> split <;> omega
      rw [hg] at hit
      have hF : R < fuel := by unfold fuel; omega
      refine only_loop salt (by omega) R (by omega) R 0 fuel _ _ (by omega) hF (by omega) (by simp; omega) (by simp; omega) (fun h => hop ?_) hit
      exact (List.append_cancel_left h).symm
  · rw [if_pos (by simpa using hE), awake22]; rfl
def cls (u : UInt8) : Nat := if 97 ≤ u.toNat ∧ u.toNat ≤ 122 then 0 else if 65 ≤ u.toNat ∧ u.toNat ≤ 90 then 1 else if 48 ≤ u.toNat ∧ u.toNat ≤ 57 then 2 else 3
def exC (p : Str) (k : Nat) : Bool := p.any fun u => cls u == k
def b01 (b : Bool) : Int := if b then 1 else 0
def hv (p : Str) : List Int := [b01 (exC p 0), b01 (exC p 1), b01 (exC p 2), b01 (exC p 3)]
theorem ofNat_toNat (u : UInt8) : UInt8.ofNat u.toNat = u := by simp
end Go.KW.S
