/- Own work: a part of the proofs of this seat. -/
import Derived.Test.YtkhodjenbganfaaGreatDoorKwPlain
import Derived.Test.YtkhodjenbganfaaGreatDoorKwMapP
import Derived.Test.YtkhodjenbganfaaGreatDoorKwNS
import Derived.KernelRfl
import Derived.Lib.IndexMore
import Derived.Lib.CountLaws
import Derived.Laws.RangeString
import Derived.Laws.RangeAny
set_option linter.unusedVariables false
set_option linter.unusedSimpArgs false
namespace Go.KW.S
open Go Go.KW
/-! ### words -/
def isW (c : Int) : Bool := (((decide (c ≥ 65) && decide (c ≤ 90)) || (decide (c ≥ 97) && decide (c ≤ 122))) || (decide (c ≥ 48) && decide (c ≤ 57))) || c == 45 || c == 95 || c == 46 || c == 58
def word (s : Str) : Bool := s.all (fun u => isW u.toNat) && (decide (1 ≤ s.length) && decide (s.length ≤ 64))
theorem fold_Word_1_eq (c : Int) : fold_Word_1 c = some (isW c) := by
  simp only [fold_Word_1, fold_letter, fold_upper, fold_digit, isW, Option.bind_some]
  cases (decide (c ≥ 65) && decide (c ≤ 90)) <;> cases (decide (c ≥ 97) && decide (c ≤ 122)) <;> simp
theorem fold_made_eq (s : Str) (hs : fits s) : fold_made__Word_1 s = some (word s) := by
  have key : ∀ (r : Str) (i n : Nat), s.drop i = r → i ≤ s.length → r.length < n →
      fold_made__Word_1_L1 n s (s.length : Int) (i : Int) = some (r.all (fun u => isW u.toNat) && (decide (1 ≤ s.length) && decide (s.length ≤ 64))) := by
    intro r
    induction r with
    | nil =>
      intro i n hd hi hn
      obtain ⟨n, rfl⟩ : ∃ k, n = k + 1 := ⟨n - 1, by simp at hn; omega⟩
      have := drop_nil hd
      simp only [fold_made__Word_1_L1, show ¬ ((i : Int) < s.length) by omega, decide_false, Bool.false_eq_true, if_false, List.all_nil, Bool.true_and, Option.some.injEq]
      rw [Bool.eq_iff_iff]; cases s <;> simp <;> omega
    | cons u r ih =>
      intro i n hd hi hn
      obtain ⟨n, rfl⟩ : ∃ k, n = k + 1 := ⟨n - 1, by simp at hn; omega⟩
      obtain ⟨h1, h2, h3⟩ := drop_more hd
      have hlt := drop_lt hd
      have := hs; unfold fits at this
      simp only [fold_made__Word_1_L1, show ((i : Int) < s.length) by omega, decide_true, if_true, inb_n, h1, chk_true, byteAt_some h2, fold_Word_1_eq, Option.bind_some, w64n (show i < 9223372036854775807 by omega), List.all_cons]
      cases isW u.toNat with
      | false => simp
      | true => simpa using ih (i + 1) n h3 (by omega) (by simp at hn; omega)
  exact key s 0 fuel rfl (by omega) (fuel_pos hs)
theorem fold_Word_eq (s : Str) (hs : fits s) : fold_Word s = some (word s) := by
  simp [fold_Word, fold_made_eq s hs]
/-! ### values: printable strings -/
def prt (u : UInt8) : Bool := decide (32 ≤ u.toNat) && decide (u.toNat ≤ 126)
/-! ### digests, without the reference -/
theorem wrap_u64_range (x : Int) : 0 ≤ IntKind.u64.wrap x ∧ IntKind.u64.wrap x < 18446744073709551616 := by
  simp [IntKind.wrap, IntKind.bits, IntKind.signed]; omega
theorem bXor_range (a b : Int) : 0 ≤ bXor .u64 a b ∧ bXor .u64 a b < 18446744073709551616 := wrap_u64_range _
def sumL : Int → Str → Int
  | h, [] => h
  | h, u :: r => sumL (IntKind.u64.wrap ((bXor .u64 h (IntKind.u64.wrap (u.toNat : Int))) * 1099511628211)) r
def sumF (h : Int) : Int := bXor .u64 (IntKind.u64.wrap ((bXor .u64 (IntKind.u64.wrap ((bXor .u64 h (bShr .u64 h 33)) * 18397679294719823053)) (bShr .u64 (IntKind.u64.wrap ((bXor .u64 h (bShr .u64 h 33)) * 18397679294719823053)) 33)) * 14181476777654086739)) (bShr .u64 (IntKind.u64.wrap ((bXor .u64 (IntKind.u64.wrap ((bXor .u64 h (bShr .u64 h 33)) * 18397679294719823053)) (bShr .u64 (IntKind.u64.wrap ((bXor .u64 h (bShr .u64 h 33)) * 18397679294719823053)) 33)) * 14181476777654086739)) 33)
/-- the digest of a string -/
def sumS (s : Str) : Nat := (sumF (sumL 14695981039346656037 s)).toNat
theorem sumF_range (h : Int) : 0 ≤ sumF h ∧ sumF h < 18446744073709551616 := bXor_range _ _
theorem sumS_lt (s : Str) : sumS s < 18446744073709551616 := by have := sumF_range (sumL 14695981039346656037 s); unfold sumS; omega
theorem sumS_int (s : Str) : (sumS s : Int) = sumF (sumL 14695981039346656037 s) := Int.toNat_of_nonneg (sumF_range _).1
theorem dsum_loop (s : Str) (hs : fits s) : ∀ (r : Str) (i n : Nat) (h : Int), s.drop i = r → i ≤ s.length → r.length < n →
    digest_Sum_L1 n s h (s.length : Int) (i : Int) = some (sumF (sumL h r)) := by
  unfold fits at hs
  intro r
  induction r with
  | nil =>
    intro i n h hd hi hn
    obtain ⟨n, rfl⟩ : ∃ k, n = k + 1 := ⟨n - 1, by simp at hn; omega⟩
    have := drop_nil hd
    simp only [digest_Sum_L1, show ¬ ((i : Int) < s.length) by omega, decide_false, Bool.false_eq_true, if_false]
    rfl
  | cons u r ih =>
    intro i n h hd hi hn
    obtain ⟨n, rfl⟩ : ∃ k, n = k + 1 := ⟨n - 1, by simp at hn; omega⟩
    obtain ⟨h1, h2, h3⟩ := drop_more hd
    have hlt := drop_lt hd
    simp only [digest_Sum_L1, show ((i : Int) < s.length) by omega, decide_true, if_true, inb_n, h1, chk_true, w64n (show i < 9223372036854775807 by omega), byteAt_some h2, sumL]
    exact ih (i + 1) n _ h3 (by omega) (by simp at hn; omega)
theorem digest_Sum_eq (s : Str) (hs : fits s) : digest_Sum s = some (sumS s : Int) := by
  rw [sumS_int]; exact dsum_loop s hs s 0 fuel _ rfl (by omega) (fuel_pos hs)
/-- a hexadecimal digit -/
def hexd (m : Nat) : UInt8 := if m < 10 then UInt8.ofNat (48 + m) else UInt8.ofNat (87 + m)
def hexL : Nat → Nat → Str
  | 0, _ => []
  | t + 1, m => hexd (m / 16 ^ t % 16) :: hexL t m
def hexS (m : Nat) : Str := hexL 16 m
theorem hexL_len : ∀ t m, (hexL t m).length = t
  | 0, _ => rfl
  | t + 1, m => by simp [hexL, hexL_len t m]
theorem hex_tab : ∀ j : Nat, j < 16 → tab_digest_digits[j]? = some ((hexd j).toNat : Int) := by decide
theorem bAnd15 (x : Nat) (hx : x < 18446744073709551616) : bAnd .u64 (x : Int) 15 = ((x % 16 : Nat) : Int) := by
  unfold bAnd
  have e1 : (BitVec.ofInt 64 (x : Int)) = BitVec.ofNat 64 x := by simp
  have e2 : (BitVec.ofInt 64 (15 : Int)) = BitVec.ofNat 64 15 := rfl
  show IntKind.u64.wrap (((BitVec.ofInt 64 (x : Int) &&& BitVec.ofInt 64 15).toNat : Nat) : Int) = _
  rw [e1, e2, BitVec.toNat_and, BitVec.toNat_ofNat, BitVec.toNat_ofNat, Nat.mod_eq_of_lt hx]
  have e3 : x &&& (15 % 2 ^ 64) = x % 16 := Nat.and_two_pow_sub_one_eq_mod x 4
  rw [e3, wu64 (by omega) (by have := Nat.mod_lt x (show 16 > 0 by omega); omega)]
theorem bShr4 (x t : Nat) (ht : t < 16) : bShr .u64 (x : Int) ((4 * t : Nat) : Int) = ((x / 16 ^ t : Nat) : Int) := by
  unfold bShr
  have e1 : min (((4 * t : Nat) : Int).toNat) (IntKind.u64.bits) = 4 * t := by simp [IntKind.bits]; omega
  rw [e1, Int.fdiv_eq_ediv_of_nonneg _ (Int.le_of_lt (Int.pow_pos (by omega)))]
  rw [show (2 : Int) ^ (4 * t) = ((16 ^ t : Nat) : Int) by rw [Int.pow_mul]; simp]
  simp
theorem Hex_loop (m : Nat) (hm : m < 18446744073709551616) : ∀ (k t n : Nat), t + k = 16 → k < n →
    digest_Hex_L1 n (m : Int) (List.replicate (16 - t) 0 ++ (hexL t m).map fun u => (u.toNat : Int)) (t : Int) = some (hexS m) := by
  intro k
  induction k with
  | zero =>
    intro t n ht hn
    obtain ⟨n, rfl⟩ : ∃ k, n = k + 1 := ⟨n - 1, by omega⟩
    have : t = 16 := by omega
    subst this
    have hb : bytesStr ((hexL 16 m).map fun u => (u.toNat : Int)) = hexL 16 m := by
      unfold bytesStr
      rw [List.map_map]
      exact List.map_id'' (fun u => by simp) _
    simp [digest_Hex_L1, hexL_len, chk, hb, hexS]
  | succ k ih =>
    intro t n ht hn
    obtain ⟨n, rfl⟩ : ∃ k, n = k + 1 := ⟨n - 1, by omega⟩
    have hx : m / 16 ^ t < 18446744073709551616 := Nat.lt_of_le_of_lt (Nat.div_le_self _ _) hm
    have e1 : IntKind.i64.wrap (4 * (t : Int)) = ((4 * t : Nat) : Int) := by rw [w64 (by omega) (by omega)]; omega
    have e2 : bAnd .u64 (bShr .u64 (m : Int) ((4 * t : Nat) : Int)) 15 = ((m / 16 ^ t % 16 : Nat) : Int) := by rw [bShr4 m t (by omega), bAnd15 _ hx]
    have h16 : m / 16 ^ t % 16 < 16 := Nat.mod_lt _ (by omega)
    have e3 : IntKind.i64.wrap (15 - (t : Int)) = ((15 - t : Nat) : Int) := by rw [w64 (by omega) (by omega)]; omega
    have hlen : (List.replicate (16 - t) (0 : Int) ++ (hexL t m).map fun u => (u.toNat : Int)).length = 16 := by simp [hexL_len]; omega
    have e4 : setAt (List.replicate (16 - t) (0 : Int) ++ (hexL t m).map fun u => (u.toNat : Int)) ((15 - t : Nat) : Int) ((hexd (m / 16 ^ t % 16)).toNat : Int) =
        List.replicate (16 - (t + 1)) (0 : Int) ++ (hexL (t + 1) m).map fun u => (u.toNat : Int) := by
      unfold setAt
      rw [Int.toNat_natCast, show 16 - t = (15 - t) + 1 by omega, List.replicate_succ', List.append_assoc, List.set_append_right _ _ (by simp)]
      simp [hexL, show 16 - (t + 1) = 15 - t by omega]
    have e5 : inb ((m / 16 ^ t % 16 : Nat) : Int) 16 = true := by rw [inb_iff]; omega
    have e6 : inb ((15 - t : Nat) : Int) 16 = true := by rw [inb_iff]; omega
    have e7 : inb ((15 - t : Nat) : Int) ((List.replicate (16 - t) (0 : Int) ++ (hexL t m).map fun u => (u.toNat : Int)).length : Nat) = true := by rw [hlen, inb_iff]; omega
    simp only [digest_Hex_L1, show ((t : Int) < 16) by omega, decide_true, if_true, e1, show (0 : Int) ≤ ((4 * t : Nat) : Int) by omega, chk_true, e2, e5, idx_n, hex_tab _ h16, Option.bind_some, e3, e6, e7, e4, w64n (show t < 9223372036854775807 by omega)]
    exact ih (t + 1) n (by omega) (by omega)
theorem digest_Hex_eq (m : Nat) (hm : m < 18446744073709551616) : digest_Hex (m : Int) = some (hexS m) := Hex_loop m hm 16 0 fuel rfl (by unfold fuel; omega)
/-- the hexadecimal digest -/
def textS (s : Str) : Str := hexS (sumS s)
theorem textS_len (s : Str) : (textS s).length = 16 := hexL_len _ _
theorem digest_Text_eq (s : Str) (hs : fits s) : digest_Text s = some (textS s) := by
  unfold textS digest_Text
  rw [digest_Sum_eq s hs, Option.bind_some, digest_Hex_eq (sumS s) (sumS_lt s), Option.bind_some]
/-- an instant by Rule 6 -/
def lim (t : Int) : Int := gmin (gmax t 0) 1099511627776
theorem lim_range (t : Int) : 0 ≤ lim t ∧ lim t ≤ 1099511627776 := by unfold lim gmin gmax; split <;> split <;> omega
/-! ### passwords -/
def pwS (s : Str) : Bool := s.all prt && (decide (8 ≤ s.length) && decide (s.length ≤ 256))
theorem prt_byte (u : UInt8) (b : Option Bool) : (Option.bind (if decide ((u.toNat : Int) < 32) = true then some true else some (decide ((u.toNat : Int) > 126))) fun z5 => if z5 = true then some false else b) = if prt u then b else some false := by
  unfold prt
  by_cases h1 : u.toNat < 32
  · rw [if_pos (decide_eq_true (by omega))]
    simp [show ¬ 32 ≤ u.toNat by omega]
  · rw [if_neg (by simp; omega)]
    by_cases h2 : u.toNat > 126
    · simp [show ¬ u.toNat ≤ 126 by omega, show (126 : Int) < u.toNat by omega]
    · simp [show u.toNat ≤ 126 by omega, show 32 ≤ u.toNat by omega, show ¬ (126 : Int) < u.toNat by omega]
theorem isPassword_loop (s : Str) (hs : fits s) : ∀ (r : Str) (i n : Nat), s.drop i = r → i ≤ s.length → r.length < n →
    secret_isPassword_L1 n s (s.length : Int) (i : Int) = some (r.all prt && (decide (8 ≤ s.length) && decide (s.length ≤ 256))) := by
  unfold fits at hs
  intro r
  induction r with
  | nil =>
    intro i n hd hi hn
    obtain ⟨n, rfl⟩ : ∃ k, n = k + 1 := ⟨n - 1, by simp at hn; omega⟩
    have := drop_nil hd
    simp only [secret_isPassword_L1, show ¬ ((i : Int) < s.length) by omega, decide_false, Bool.false_eq_true, if_false, List.all_nil, Bool.true_and, Option.some.injEq]
    congr 1
    · rw [decide_eq_decide]; omega
    · rw [decide_eq_decide]; omega
  | cons u r ih =>
    intro i n hd hi hn
    obtain ⟨n, rfl⟩ : ∃ k, n = k + 1 := ⟨n - 1, by simp at hn; omega⟩
    obtain ⟨h1, h2, h3⟩ := drop_more hd
    have hlt := drop_lt hd
    simp only [secret_isPassword_L1, show ((i : Int) < s.length) by omega, decide_true, if_true, inb_n, h1, chk_true, byteAt_some h2, w64n (show i < 9223372036854775807 by omega), prt_byte, List.all_cons]
    cases hp : prt u with
    | false => rfl
    | true => simp only [if_true, Bool.true_and]; exact ih (i + 1) n h3 (by omega) (by simp at hn; omega)
theorem secret_isPassword_eq (s : Str) (hs : fits s) : secret_isPassword s = some (pwS s) := isPassword_loop s hs s 0 fuel rfl (by omega) (fuel_pos hs)
/-! ### iterated digests -/
def itN (salt : Str) : Nat → Str → Str
  | 0, h => h
  | n + 1, h => itN salt n (textS (h ++ [124] ++ salt))
def itS (salt s : Str) (r : Int) : Str := itN salt (gmin (gmax r 0) 64).toNat (textS (salt ++ [124] ++ s))
theorem Iterate_loop (salt : Str) (hs : salt.length ≤ 1000000) (N : Nat) (hN : N ≤ 64) : ∀ (k i n : Nat) (h : Str), i + k = N → k < n → h.length = 16 →
    digest_Iterate_L1 n salt h (N : Int) (i : Int) = some (itN salt k h) := by
  intro k
  induction k with
  | zero =>
    intro i n h hi hn hh
    obtain ⟨n, rfl⟩ : ∃ k, n = k + 1 := ⟨n - 1, by omega⟩
    simp only [digest_Iterate_L1, show ¬ ((i : Int) < (N : Int)) by omega, decide_false, Bool.false_eq_true, if_false, itN]
  | succ k ih =>
    intro i n h hi hn hh
    obtain ⟨n, rfl⟩ : ∃ k, n = k + 1 := ⟨n - 1, by omega⟩
    simp only [digest_Iterate_L1, show ((i : Int) < (N : Int)) by omega, decide_true, if_true, itN]
    rw [chk_t (by simp [fitS]; omega), chk_t (by simp [fitS]; omega), digest_Text_eq _ (by unfold fits; simp; omega), Option.bind_some, w64n (by omega)]
    exact ih (i + 1) n _ (by omega) (by omega) (textS_len _)
theorem digest_Iterate_eq (salt s : Str) (r : Int) (h1 : salt.length ≤ 1000000) (h2 : s.length ≤ 1000000) : digest_Iterate salt s r = some (itS salt s r) := by
  unfold digest_Iterate itS
  rw [chk_t (by simp [fitS]; omega), chk_t (by simp [fitS]; omega), digest_Text_eq _ (by unfold fits; simp; omega), Option.bind_some]
  have hr : 0 ≤ gmin (gmax r 0) 64 ∧ gmin (gmax r 0) 64 ≤ 64 := by unfold gmin gmax; split <;> split <;> omega
  have he : gmin (gmax r 0) 64 = ((gmin (gmax r 0) 64).toNat : Int) := by omega
  have := Iterate_loop salt h1 (gmin (gmax r 0) 64).toNat (by omega) (gmin (gmax r 0) 64).toNat 0 fuel (textS (salt ++ [124] ++ s)) (by omega) (by unfold fuel; omega) (textS_len _)
  rw [← he] at this
  exact this
theorem pwS_len {p : Str} (h : pwS p = true) : p.length ≤ 256 := by
  simp only [pwS, Bool.and_eq_true, decide_eq_true_eq] at h; exact h.2.2
def zvS : api_Verifier := ⟨[], 0, []⟩
def makS (p salt : Str) (r : Int) : api_Verifier × Int :=
  if (!word salt || decide (r < 1)) || decide (r > 64) then (zvS, 2) else if !pwS p then (zvS, 4) else (⟨salt, r, itS salt p r⟩, 0)
theorem secret_Make_eq (p salt : Str) (r : Int) (hp : fits p) (hs : fits salt) : secret_Make p salt r = some (makS p salt r) := by
  unfold secret_Make makS
  rw [fold_Word_eq salt hs, Option.bind_some]
  cases h : (!word salt || decide (r < 1)) || decide (r > 64) with
  | true => rfl
  | false =>
    simp only [Bool.false_eq_true, if_false, secret_isPassword_eq p hp, Option.bind_some]
    cases h2 : pwS p with
    | false => rfl
    | true =>
      simp only [Bool.or_eq_false_iff, Bool.not_eq_false'] at h
      have a1 : salt.length ≤ 64 := by have := h.1.1; simp only [word, Bool.and_eq_true, decide_eq_true_eq] at this; exact this.2.2
      have a2 := pwS_len h2
      simp only [Bool.not_true, Bool.false_eq_true, if_false, digest_Iterate_eq salt p r (by omega) (by omega), Option.bind_some]
theorem word_len {s : Str} (h : word s = true) : 1 ≤ s.length ∧ s.length ≤ 64 := by
  simp only [word, Bool.and_eq_true, decide_eq_true_eq] at h; exact h.2
theorem word_fits {s : Str} (h : word s = true) : fits s := by have := word_len h; unfold fits; omega
namespace Otp
end Otp
/-! ### locks -/
theorem opt_cases {α : Type} (o : Option α) : o = none ∨ ∃ r, o = some r := by cases o <;> simp
def addS (a b : Int) : Int := lim (lim a + lim b)
abbrev LL := List (Str × secret_record)
def one (w now t : Int) : Bool := decide (t ≤ now) && decide (now - t < w)
def cnt (w : Int) (ts : List Int) (now : Int) : Int := ((ts.filter (one w now)).length : Int)
structure goodR (r : secret_record) : Prop where
  len : r.times.length ≤ 256
  rng : ∀ t ∈ r.times, 0 ≤ t ∧ t ≤ 1099511627776
def zr : secret_record := ⟨[], 0⟩
theorem goodR_z : goodR zr := ⟨by simp [zr], fun t h => by simp [zr] at h⟩
/-- the times behind a failure -/
def tsF (ts : List Int) (t : Int) : List Int := if (ts ++ [t]).length > 256 then (ts ++ [t]).drop 1 else ts ++ [t]
def failR (most w lock : Int) (r : secret_record) (t : Int) : secret_record :=
  if t < r.until_ ∨ cnt w (tsF r.times t) t ≥ most then ⟨tsF r.times t, gmax r.until_ (addS t lock)⟩ else ⟨tsF r.times t, r.until_⟩
def failL (most w lock : Int) (l : LL) (u : Str) (now : Int) : LL :=
  if word u = false then l else if mfind u l = none ∧ 256 ≤ l.length then l else mputL u (failR most w lock ((mfind u l).getD zr) (lim now)) l
theorem tsF_len {ts : List Int} {t : Int} (h : ts.length ≤ 256) : (tsF ts t).length ≤ 256 := by
  unfold tsF
  split
  · simp; omega
  · simp at *; omega
theorem tsF_mem {ts : List Int} {t x : Int} (h : x ∈ tsF ts t) : x ∈ ts ∨ x = t := by
  unfold tsF at h
  split at h
  · have := List.mem_of_mem_drop h
    simpa using this
  · simpa using h
structure InvL (l : LL) : Prop where
  nd : nodupK l
  len : l.length ≤ 256
  good : ∀ p ∈ l, goodR p.2
theorem goodR_fail {r : secret_record} (h : goodR r) (most w lock now : Int) : goodR (failR most w lock r (lim now)) := by
  have hl := tsF_len (t := lim now) h.len
  have hm : ∀ t ∈ tsF r.times (lim now), 0 ≤ t ∧ t ≤ 1099511627776 := fun t ht => by
    rcases tsF_mem ht with ht | rfl
    · exact h.rng t ht
    · exact lim_range now
  unfold failR
  split
  · exact ⟨hl, hm⟩
  · exact ⟨hl, hm⟩
theorem InvL.get {l : LL} (h : InvL l) (u : Str) : goodR ((mfind u l).getD zr) := by
  rcases opt_cases (mfind u l) with e | ⟨r, e⟩
  · rw [e]; exact goodR_z
  · rw [e]; exact h.good _ (mfind_mem e)
theorem invL_fail {l : LL} (h : InvL l) (most w lock : Int) (u : Str) (now : Int) : InvL (failL most w lock l u now) := by
  unfold failL
  split
  · exact h
  split
  · exact h
  · rename_i h1
    refine ⟨nodupK_put h.nd, ?_, fun p hp => ?_⟩
    · rw [len_put]
      have := h.len
      split
      · exact this
      · rename_i hs
        rcases opt_cases (mfind u l) with e | ⟨r, e⟩
        · have : ¬ 256 ≤ l.length := fun h' => h1 ⟨e, h'⟩
          omega
        · rw [e] at hs; simp at hs
    · rcases mem_put hp with rfl | hp
      · exact goodR_fail (h.get u) _ _ _ _
      · exact h.good p hp
def lockedS (l : LL) (u : Str) (now : Int) : Bool := match mfind u l with | none => false | some r => decide (lim now < r.until_)
theorem invL_del {l : LL} (h : InvL l) (u : Str) : InvL (mdelL u l) := by
  refine ⟨nodupK_del h.nd, ?_, fun p hp => h.good p (mem_del hp)⟩
  have := len_del (k := u) h.nd
  have := h.len
  omega
theorem alive39 : law39_alive = some true := by kernel_rfl
end Go.KW.S
