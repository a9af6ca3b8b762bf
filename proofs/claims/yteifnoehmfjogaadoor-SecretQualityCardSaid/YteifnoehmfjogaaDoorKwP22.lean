/- Own work: a part of the proofs of this seat. -/
import Derived.Test.YteifnoehmfjogaaDoorKwPlain
import Derived.Test.YteifnoehmfjogaaDoorKwMapP
import Derived.Test.YteifnoehmfjogaaDoorKwLS
import Derived.KernelRfl
import Derived.Lib.IndexMore
import Derived.Lib.CountLaws
import Derived.Laws.RangeString
import Derived.Laws.RangeAny
set_option linter.unusedVariables false
set_option linter.unusedSimpArgs false
namespace Go.KW.S
open Go Go.KW
/-! ### values: printable strings -/
def prt (u : UInt8) : Bool := decide (32 ≤ u.toNat) && decide (u.toNat ≤ 126)
/-! ### passwords -/
def pwS (s : Str) : Bool := s.all prt && (decide (8 ≤ s.length) && decide (s.length ≤ 256))
theorem prt_byte (u : UInt8) (b : Option Bool) : (Option.bind (if decide ((u.toNat : Int) < 32) = true then some true else some (decide ((u.toNat : Int) > 126))) fun z5 => if z5 = true then some false else b) = if prt u then b else some false := by
  unfold prt
  by_cases h1 : u.toNat < 32
  · rw [if_pos (decide_eq_true (by omega))]
    simp [show ¬ 32 ≤ u.toNat by omega]
  · rw [if_neg (by simp; omega)]
    by_cases h2 : u.toNat > 126
    · simp [show ¬ u.toNat ≤ 126 by omega, show (126 : Int) < u.toNat by omega]
    · simp [show u.toNat ≤ 126 by omega, show 32 ≤ u.toNat by omega, show ¬ (126 : Int) < u.toNat by omega]
theorem isPassword_loop (s : Str) (hs : fits s) : ∀ (r : Str) (i n : Nat), s.drop i = r → i ≤ s.length → r.length < n →
    secret_isPassword_L1 n s (s.length : Int) (i : Int) = some (r.all prt && (decide (8 ≤ s.length) && decide (s.length ≤ 256))) := by
  unfold fits at hs
  intro r
  induction r with
  | nil =>
    intro i n hd hi hn
    obtain ⟨n, rfl⟩ : ∃ k, n = k + 1 := ⟨n - 1, by simp at hn; omega⟩
    have := drop_nil hd
    simp only [secret_isPassword_L1, show ¬ ((i : Int) < s.length) by omega, decide_false, Bool.false_eq_true, if_false, List.all_nil, Bool.true_and, Option.some.injEq]
    congr 1
    · rw [decide_eq_decide]; omega
    · rw [decide_eq_decide]; omega
  | cons u r ih =>
    intro i n hd hi hn
    obtain ⟨n, rfl⟩ : ∃ k, n = k + 1 := ⟨n - 1, by simp at hn; omega⟩
    obtain ⟨h1, h2, h3⟩ := drop_more hd
    have hlt := drop_lt hd
    simp only [secret_isPassword_L1, show ((i : Int) < s.length) by omega, decide_true, if_true, inb_n, h1, chk_true, byteAt_some h2, w64n (show i < 9223372036854775807 by omega), prt_byte, List.all_cons]
    cases hp : prt u with
    | false => rfl
    | true => simp only [if_true, Bool.true_and]; exact ih (i + 1) n h3 (by omega) (by simp at hn; omega)
theorem secret_isPassword_eq (s : Str) (hs : fits s) : secret_isPassword s = some (pwS s) := isPassword_loop s hs s 0 fuel rfl (by omega) (fuel_pos hs)
theorem refPass_loop (s : Str) (hs : fits s) : ∀ (r : Str) (i n : Nat), s.drop i = r → i ≤ s.length → r.length < n →
    ref22_Password_L1 n s (i : Int) = some (r.all prt) := by
  unfold fits at hs
  intro r
  induction r with
  | nil =>
    intro i n hd hi hn
    obtain ⟨n, rfl⟩ : ∃ k, n = k + 1 := ⟨n - 1, by simp at hn; omega⟩
    have := drop_nil hd
    simp only [ref22_Password_L1, show ¬ ((i : Int) < s.length) by omega, decide_false, Bool.false_eq_true, if_false, List.all_nil]
  | cons u r ih =>
    intro i n hd hi hn
    obtain ⟨n, rfl⟩ : ∃ k, n = k + 1 := ⟨n - 1, by simp at hn; omega⟩
    obtain ⟨h1, h2, h3⟩ := drop_more hd
    have hlt := drop_lt hd
    simp only [ref22_Password_L1, show ((i : Int) < s.length) by omega, decide_true, if_true, inb_n, h1, chk_true, byteAt_some h2, w64n (show i < 9223372036854775807 by omega), prt_byte, List.all_cons]
    cases hp : prt u with
    | false => rfl
    | true => simp only [if_true, Bool.true_and]; exact ih (i + 1) n h3 (by omega) (by simp at hn; omega)
theorem ref22_Password_eq (s : Str) (hs : fits s) : ref22_Password s = some (pwS s) := by
  unfold ref22_Password pwS
  by_cases h : s.length < 8 ∨ s.length > 256
  · have : ((decide ((s.length : Int) < 8)) || (decide ((s.length : Int) > 256))) = true := by simp; omega
    rw [if_pos this]
    have h2 : (decide (8 ≤ s.length) && decide (s.length ≤ 256)) = false := by
      simp only [Bool.and_eq_false_iff, decide_eq_false_iff_not]; omega
    rw [h2, Bool.and_false]
  · have : ((decide ((s.length : Int) < 8)) || (decide ((s.length : Int) > 256))) = false := by simp; omega
    rw [if_neg (by rw [this]; simp)]
    have h2 : (decide (8 ≤ s.length) && decide (s.length ≤ 256)) = true := by simp; omega
    rw [h2, Bool.and_true]
    exact refPass_loop s hs s 0 fuel rfl (by omega) (fuel_pos hs)
theorem put_set {K V : Type} [DecidableEq K] {key : K} {r x : V} : ∀ {l : List (K × V)} {k : Nat}, l[k]? = some (key, r) → (∀ q ∈ l.take k, q.1 ≠ key) → mputL key x l = l.set k (key, x)
  | [], k, h, _ => by simp at h
  | p :: l, 0, h, _ => by
    simp at h; subst h
    simp [mputL]
  | p :: l, k + 1, h, ht => by
    have hp := ht p (by simp)
    unfold mputL
    rw [if_neg (fun e => hp e.symm), put_set (k := k) (by simpa using h) (fun q hq => ht q (by simp [hq]))]
    rfl
theorem put_none {K V : Type} [DecidableEq K] {key : K} {x : V} : ∀ {l : List (K × V)}, mfind key l = none → mputL key x l = l ++ [(key, x)]
  | [], _ => rfl
  | p :: l, h => by
    unfold mfind at h
    split at h
    · cases h
    · rename_i e
      unfold mputL
      rw [if_neg e, put_none h]; rfl
/-! ### locks -/
theorem opt_cases {α : Type} (o : Option α) : o = none ∨ ∃ r, o = some r := by cases o <;> simp
abbrev LL := List (Str × secret_record)
def one (w now t : Int) : Bool := decide (t ≤ now) && decide (now - t < w)
structure goodR (r : secret_record) : Prop where
  len : r.times.length ≤ 256
  rng : ∀ t ∈ r.times, 0 ≤ t ∧ t ≤ 1099511627776
def zr : secret_record := ⟨[], 0⟩
theorem goodR_z : goodR zr := ⟨by simp [zr], fun t h => by simp [zr] at h⟩
structure InvL (l : LL) : Prop where
  nd : nodupK l
  len : l.length ≤ 256
  good : ∀ p ∈ l, goodR p.2
theorem InvL.get {l : LL} (h : InvL l) (u : Str) : goodR ((mfind u l).getD zr) := by
  rcases opt_cases (mfind u l) with e | ⟨r, e⟩
  · rw [e]; exact goodR_z
  · rw [e]; exact h.good _ (mfind_mem e)
/-! ### the specification's locks -/
abbrev toRec (p : Str × secret_record) : ref22_record := ⟨p.1, p.2.times, p.2.until_⟩
structure AtL (l : LL) (u : Str) (k : Nat) (r : secret_record) : Prop where
  get : l[k]? = some (u, r)
  pre : ∀ q ∈ l.take k, q.1 ≠ u
theorem AtL.lt {l : LL} {u : Str} {k : Nat} {r : secret_record} (h : AtL l u k r) : k < l.length := (List.getElem?_eq_some_iff.1 h.get).1
theorem AtL.put {l : LL} {u : Str} {k : Nat} {r x : secret_record} (h : AtL l u k r) : setAt (l.map toRec) (k : Int) (toRec (u, x)) = (mputL u x l).map toRec := by
  rw [put_set h.get h.pre, List.map_set]
  simp [setAt]
theorem AtL.next {l : LL} {u : Str} {k : Nat} {r : secret_record} (h : AtL l u k r) (x : secret_record) : AtL (mputL u x l) u k x := by
  have hlt := h.lt
  rw [put_set h.get h.pre]
  refine ⟨by rw [List.getElem?_set_self hlt], fun q hq => ?_⟩
  rw [List.take_set_of_le (Nat.le_refl _)] at hq
  exact h.pre q hq
theorem awake22 : law22_awake = some true := by kernel_rfl
def nd : List Str → Bool
  | [] => true
  | x :: r => !r.contains x && nd r
/-! ### the quality of a password -/
theorem class_same (c : Int) : ref22_class c = secret_class c := rfl
def cls (u : UInt8) : Nat := if 97 ≤ u.toNat ∧ u.toNat ≤ 122 then 0 else if 65 ≤ u.toNat ∧ u.toNat ≤ 90 then 1 else if 48 ≤ u.toNat ∧ u.toNat ≤ 57 then 2 else 3
theorem cls_lt (u : UInt8) : cls u < 4 := by unfold cls; (repeat' split) <;> omega
theorem class_eq (u : UInt8) : secret_class (u.toNat : Int) = some (cls u : Int) := by
  unfold secret_class cls
  by_cases h1 : 97 ≤ u.toNat ∧ u.toNat ≤ 122
  · rw [if_pos (by simp; omega), if_pos h1]; rfl
  rw [if_neg (by simp; omega), if_neg h1]
  by_cases h2 : 65 ≤ u.toNat ∧ u.toNat ≤ 90
  · rw [if_pos (by simp; omega), if_pos h2]; rfl
  rw [if_neg (by simp; omega), if_neg h2]
  by_cases h3 : 48 ≤ u.toNat ∧ u.toNat ≤ 57
  · rw [if_pos (by simp; omega), if_pos h3]; rfl
  rw [if_neg (by simp; omega), if_neg h3]; rfl
def exC (p : Str) (k : Nat) : Bool := p.any fun u => cls u == k
def b01 (b : Bool) : Int := if b then 1 else 0
def hv (p : Str) : List Int := [b01 (exC p 0), b01 (exC p 1), b01 (exC p 2), b01 (exC p 3)]
def sumC (p : Str) : Int := b01 (exC p 0) + b01 (exC p 1) + b01 (exC p 2) + b01 (exC p 3)
theorem b01_range (b : Bool) : 0 ≤ b01 b ∧ b01 b ≤ 1 := by cases b <;> decide
theorem exC_snoc (p : Str) (u : UInt8) (k : Nat) : exC (p ++ [u]) k = (exC p k || (cls u == k)) := by simp [exC]
theorem hv_snoc (p : Str) (u : UInt8) : setAt (hv p) (cls u : Int) 1 = hv (p ++ [u]) := by
  have h := cls_lt u
  unfold hv setAt
  simp only [exC_snoc, Int.toNat_natCast]
  have : cls u = 0 ∨ cls u = 1 ∨ cls u = 2 ∨ cls u = 3 := by omega
  rcases this with e | e | e | e <;> rw [e] <;> simp [b01]
/-! lower case -/
def lowB (u : UInt8) : UInt8 := if 65 ≤ u.toNat ∧ u.toNat ≤ 90 then UInt8.ofNat (u.toNat + 32) else u
def low (s : Str) : Str := s.map lowB
theorem bytes_back (s : Str) : bytesStr (strBytes s) = s := by
  unfold bytesStr strBytes
  rw [List.map_map]
  have : ((fun m : Int => UInt8.ofNat m.toNat) ∘ fun u : UInt8 => (u.toNat : Int)) = id := by funext u; simp
  rw [this, List.map_id]
theorem low_loop (s : Str) (hs : s.length ≤ 1000) : ∀ (r : Str) (i n : Nat), s.drop i = r → i ≤ s.length → r.length < n →
    fold_Lower_L1 n (strBytes (low (s.take i) ++ r)) (s.length : Int) (i : Int) = some (low s) := by
  intro r
  induction r with
  | nil =>
    intro i n hd hi hn
    obtain ⟨n, rfl⟩ : ∃ k, n = k + 1 := ⟨n - 1, by simp at hn; omega⟩
    have := drop_nil hd
    unfold fold_Lower_L1
    rw [if_neg (by simp; omega), List.append_nil, bytes_back, List.take_of_length_le this]
  | cons u r ih =>
    intro i n hd hi hn
    obtain ⟨n, rfl⟩ : ∃ k, n = k + 1 := ⟨n - 1, by simp at hn; omega⟩
    obtain ⟨h1, h2, h3⟩ := drop_more hd
    have hlt := drop_lt hd
    have hl : (low (s.take i)).length = i := by simp [low]; omega
    have hlen : (strBytes (low (s.take i) ++ u :: r)).length = s.length := by
      have := congrArg List.length hd
      simp [strBytes, low] at this ⊢; omega
    have hix : idx (strBytes (low (s.take i) ++ u :: r)) (i : Int) = some (u.toNat : Int) := by
      rw [idx_n]
      unfold strBytes
      rw [List.getElem?_map, List.getElem?_append_right (by omega), hl, Nat.sub_self]; rfl
    have hin : inb (i : Int) (strBytes (low (s.take i) ++ u :: r)).length = true := by rw [inb_n, hlen]; exact decide_eq_true hlt
    have hu : u.toNat < 256 := u.toNat_lt
    have hup : fold_upper (u.toNat : Int) = some (decide (65 ≤ u.toNat ∧ u.toNat ≤ 90)) := by
      unfold fold_upper
      congr 1
      rw [Bool.eq_iff_iff]
      simp; omega
    have next : ∀ x : UInt8, lowB u = x → fold_Lower_B2 (fold_Lower_L1 n) (strBytes (low (s.take i) ++ x :: r)) (s.length : Int) (i : Int) = some (low s) := by
      intro x hx
      unfold fold_Lower_B2
      rw [w64n (show i < 9223372036854775807 by omega)]
      have := ih (i + 1) n h3 (by omega) (by simp at hn; omega)
      rw [take_more hd] at this
      have e : low (s.take i ++ [u]) ++ r = low (s.take i) ++ x :: r := by simp [low, hx]
      rw [e] at this
      exact this
    unfold fold_Lower_L1
    rw [if_pos (by simp; omega), chk_t hin, hix, Option.bind_some, hup, Option.bind_some]
    by_cases hc : 65 ≤ u.toNat ∧ u.toNat ≤ 90
    · rw [if_pos (decide_eq_true hc), chk_t hin, Option.bind_some, chk_t hin, chk_t hin, wu8 (by omega) (by omega)]
      have hset : setAt (strBytes (low (s.take i) ++ u :: r)) (i : Int) ((u.toNat : Int) + 32) = strBytes (low (s.take i) ++ UInt8.ofNat (u.toNat + 32) :: r) := by
        unfold setAt strBytes
        rw [Int.toNat_natCast, List.map_append, List.map_append, List.set_append_right _ _ (by simp; omega)]
        simp only [List.length_map, hl, Nat.sub_self, List.map_cons, List.set_cons_zero]
        congr 2
        rw [UInt8.toNat_ofNat']
        omega
      rw [hset]
      exact next _ (by unfold lowB; rw [if_pos hc])
    · rw [if_neg (by simpa using hc)]
      exact next u (by unfold lowB; rw [if_neg hc])
theorem fold_Lower_eq (s : Str) (hs : s.length ≤ 1000) : fold_Lower s = some (low s) := by
  unfold fold_Lower
  have hl : (strBytes s).length = s.length := by simp [strBytes]
  rw [chk_t (by simp [fitS]; omega), hl]
  exact low_loop s hs s 0 fuel rfl (by omega) (by unfold fuel; omega)
theorem rlow_loop (s : Str) (hs : s.length ≤ 1000) : ∀ (r : Str) (i n : Nat), s.drop i = r → i ≤ s.length → r.length < n →
    ref01_Lower_L1 n s (strBytes (low (s.take i))) (i : Int) = some (low s) := by
  intro r
  induction r with
  | nil =>
    intro i n hd hi hn
    obtain ⟨n, rfl⟩ : ∃ k, n = k + 1 := ⟨n - 1, by simp at hn; omega⟩
    have := drop_nil hd
    unfold ref01_Lower_L1
    rw [if_neg (by simp; omega), bytes_back, List.take_of_length_le this]
  | cons u r ih =>
    intro i n hd hi hn
    obtain ⟨n, rfl⟩ : ∃ k, n = k + 1 := ⟨n - 1, by simp at hn; omega⟩
    obtain ⟨h1, h2, h3⟩ := drop_more hd
    have hlt := drop_lt hd
    have hu : u.toNat < 256 := u.toNat_lt
    have hb := byteAt_some h2
    have hl : (strBytes (low (s.take i))).length = i := by simp [strBytes, low]; omega
    have next : ∀ c : Int, ((lowB u).toNat : Int) = c → ref01_Lower_B2 (ref01_Lower_L1 n) s (strBytes (low (s.take i))) (i : Int) c = some (low s) := by
      intro c hc
      unfold ref01_Lower_B2
      rw [chk_t (by simp [fitL, hl]; omega), w64n (show i < 9223372036854775807 by omega)]
      have := ih (i + 1) n h3 (by omega) (by simp at hn; omega)
      rw [take_more hd] at this
      have e : strBytes (low (s.take i ++ [u])) = strBytes (low (s.take i)) ++ [c] := by simp [strBytes, low, hc]
      rw [e] at this
      exact this
    unfold ref01_Lower_L1
    rw [if_pos (by simp; omega), chk_t (by rw [inb_n]; exact decide_eq_true hlt), hb]
    by_cases hc : 65 ≤ u.toNat ∧ u.toNat ≤ 90
    · rw [if_pos (by simp; omega), wu8 (x := (u.toNat : Int) + 97) (by omega) (by omega), wu8 (by omega) (by omega)]
      refine next _ ?_
      unfold lowB
      rw [if_pos hc, UInt8.toNat_ofNat']
      omega
    · rw [if_neg (by simp; omega)]
      exact next _ (by unfold lowB; rw [if_neg hc])
theorem ref01_Lower_eq (s : Str) (hs : s.length ≤ 1000) : ref01_Lower s = some (low s) := rlow_loop s hs s 0 fuel rfl (by omega) (by unfold fuel; omega)
/-! parts -/
theorem occ_cut {s t : Str} {i : Nat} (h : i + t.length ≤ s.length) : (cut s (i : Int) ((i + t.length : Nat) : Int) == t) = Lib.occAt s t i := by
  rw [cut_n, show i + t.length - i = t.length by omega]
  unfold Lib.occAt
  rw [Bool.eq_iff_iff, beq_iff_eq, List.isPrefixOf_iff_prefix, List.prefix_iff_eq_take]
  exact eq_comm
theorem contains_loop (s t : Str) (hs : s.length ≤ 1000) (ht : t.length ≤ 1000) : ∀ (k i n : Nat), s.length + 1 - i = k → k < n → i ≤ s.length + 1 → Lib.NoOcc s t i → ref22_contains_L1 n s t (i : Int) = some (Lib.contains s t) := by
  intro k
  have hnot : ∀ i, Lib.NoOcc s t i → s.length < i + t.length → Lib.contains s t = false := by
    intro i hno hlt
    unfold Lib.contains
    rcases Lib.index_spec s t with ⟨h1, _⟩ | ⟨j, h1, h2, h3, h4⟩
    · rw [h1]; rfl
    · have hr := Lib.index_room s t (by rw [h1]; omega)
      rw [h1] at hr
      have : j < i := by omega
      rw [hno j this] at h3; cases h3
  induction k with
  | zero =>
    intro i n hk hn hi hno
    obtain ⟨n, rfl⟩ : ∃ k, n = k + 1 := ⟨n - 1, by omega⟩
    unfold ref22_contains_L1
    rw [w64 (by omega) (by omega), if_neg (by rw [decide_eq_true_eq]; omega), hnot i hno (by omega)]
  | succ k ih =>
    intro i n hk hn hi hno
    obtain ⟨n, rfl⟩ : ∃ k, n = k + 1 := ⟨n - 1, by omega⟩
    have hw : IntKind.i64.wrap ((i : Int) + (t.length : Int)) = ((i + t.length : Nat) : Int) := by rw [w64 (by omega) (by omega)]; omega
    unfold ref22_contains_L1
    rw [hw]
    by_cases hc : i + t.length ≤ s.length
    · rw [if_pos (by rw [decide_eq_true_eq]; omega), chk_t (by rw [inc_n]; exact decide_eq_true ⟨by omega, hc⟩), occ_cut hc]
      cases ho : Lib.occAt s t i with
      | true =>
        rw [if_pos rfl]
        congr 1
        unfold Lib.contains
        rcases Lib.index_spec s t with ⟨h1, h2⟩ | ⟨j, h1, h2, h3, h4⟩
        · rw [h2 i (by omega)] at ho; cases ho
        · rw [h1]; symm; exact decide_eq_true (by omega)
      | false =>
        rw [if_neg (by simp), w64n (show i < 9223372036854775807 by omega)]
        refine ih (i + 1) n (by omega) (by omega) (by omega) fun j hj => ?_
        by_cases e : j = i
        · rw [e]; exact ho
        · exact hno j (by omega)
    · rw [if_neg (by rw [decide_eq_true_eq]; omega), hnot i hno (by omega)]
theorem ref22_contains_eq (s t : Str) (hs : s.length ≤ 1000) (ht : t.length ≤ 1000) : ref22_contains s t = some (Lib.contains s t) :=
  contains_loop s t hs ht (s.length + 1) 0 fuel (by omega) (by unfold fuel; omega) (by omega) (Lib.NoOcc.zero _ _)
def quaS (p u : Str) : Int := if !pwS p then 4 else if sumC p < 3 then 11 else if decide (3 ≤ u.length) && Lib.contains (low p) (low u) then 11 else 0
theorem low_len (s : Str) : (low s).length = s.length := by simp [low]
theorem quality_loop (p u : Str) (hp : p.length ≤ 400) (hu : u.length ≤ 400) : ∀ (r : Str) (i n : Nat), p.drop i = r → i ≤ p.length → r.length < n →
    secret_Quality_L1 n p u (hv (p.take i)) (p.length : Int) (i : Int) = some (if sumC p < 3 then 11 else if decide (3 ≤ u.length) && Lib.contains (low p) (low u) then 11 else 0) := by
  intro r
  induction r with
  | nil =>
    intro i n hd hi hn
    obtain ⟨n, rfl⟩ : ∃ k, n = k + 1 := ⟨n - 1, by simp at hn; omega⟩
    have := drop_nil hd
    have r0 := b01_range (exC p 0)
    have r1 := b01_range (exC p 1)
    have r2 := b01_range (exC p 2)
    have r3 := b01_range (exC p 3)
    unfold secret_Quality_L1
    rw [if_neg (by simp; omega), List.take_of_length_le this]
    have i0 : idx (hv p) 0 = some (b01 (exC p 0)) := rfl
    have i1 : idx (hv p) 1 = some (b01 (exC p 1)) := rfl
    have i2 : idx (hv p) 2 = some (b01 (exC p 2)) := rfl
    have i3 : idx (hv p) 3 = some (b01 (exC p 3)) := rfl
    rw [i0, i1, i2, i3, Option.bind_some, Option.bind_some, Option.bind_some, Option.bind_some, w64 (x := b01 (exC p 0) + b01 (exC p 1)) (by omega) (by omega), w64 (x := b01 (exC p 0) + b01 (exC p 1) + b01 (exC p 2)) (by omega) (by omega), w64 (by omega) (by omega)]
    have es : b01 (exC p 0) + b01 (exC p 1) + b01 (exC p 2) + b01 (exC p 3) = sumC p := rfl
    rw [es]
    by_cases hs : sumC p < 3
    · rw [if_pos (decide_eq_true hs), if_pos hs]
    · rw [if_neg (by simpa using hs), if_neg hs]
      by_cases h3 : 3 ≤ u.length
      · have hlc : lib_Contains (low p) (low u) = some (Lib.contains (low p) (low u)) := by unfold lib_Contains; rw [chk_t]; exact decide_eq_true (by rw [low_len]; omega)
        rw [if_pos (by simp; omega), fold_Lower_eq p (by omega), fold_Lower_eq u (by omega), Option.bind_some, Option.bind_some, hlc, Option.bind_some, Option.bind_some, decide_eq_true h3, Bool.true_and]
        split <;> rfl
      · rw [if_neg (by simp; omega), Option.bind_some, if_neg (by simp), decide_eq_false h3, Bool.false_and, if_neg (by simp)]
  | cons x r ih =>
    intro i n hd hi hn
    obtain ⟨n, rfl⟩ : ∃ k, n = k + 1 := ⟨n - 1, by simp at hn; omega⟩
    obtain ⟨h1, h2, h3⟩ := drop_more hd
    have hlt := drop_lt hd
    have hc := cls_lt x
    have hin4 : inb ((cls x : Nat) : Int) 4 = true := (inb_n (i := cls x) (n := 4)).trans (decide_eq_true hc)
    have hinl : inb ((cls x : Nat) : Int) (hv (p.take i)).length = true := hin4
    unfold secret_Quality_L1
    rw [if_pos (by simp; omega), chk_t (by rw [inb_n]; exact decide_eq_true hlt), byteAt_some h2, class_eq, Option.bind_some, chk_t hin4, chk_t hinl, hv_snoc, ← take_more hd, w64n (show i < 9223372036854775807 by omega)]
    exact ih (i + 1) n h3 (by omega) (by simp at hn; omega)
theorem secret_Quality_eq (p u : Str) (hp : p.length ≤ 400) (hu : u.length ≤ 400) : secret_Quality p u = some (quaS p u) := by
  unfold secret_Quality quaS
  rw [secret_isPassword_eq p (by unfold fits; omega), Option.bind_some]
  cases pwS p with
  | false => rfl
  | true =>
    rw [Bool.not_true, if_neg (by simp), if_neg (by simp)]
    exact quality_loop p u hp hu p 0 fuel rfl (by omega) (by unfold fuel; omega)
theorem rquality_two (r0 : Str → Str → Int → Int → Option Int) (p u : Str) (hp : p.length ≤ 400) (c : Int) (k : Nat) (hk : k < 4) (hc : 0 ≤ c ∧ c ≤ 4) : ∀ (r : Str) (i n : Nat) (f : Bool), p.drop i = r → i ≤ p.length → r.length < n →
    ref22_Quality_L2 r0 n p u c (k : Int) f (i : Int) = r0 p u (c + b01 (f || r.any fun x => cls x == k)) ((k + 1 : Nat) : Int) := by
  intro r
  induction r with
  | nil =>
    intro i n f hd hi hn
    obtain ⟨n, rfl⟩ : ∃ k, n = k + 1 := ⟨n - 1, by simp at hn; omega⟩
    have := drop_nil hd
    unfold ref22_Quality_L2 ref22_Quality_B3
    rw [if_neg (by simp; omega), w64n (show k < 9223372036854775807 by omega)]
    cases f with
    | true => rw [if_pos rfl, w64 (by omega) (by omega)]; rfl
    | false => rw [if_neg (by simp)]; simp [b01]
  | cons x r ih =>
    intro i n f hd hi hn
    obtain ⟨n, rfl⟩ : ∃ k, n = k + 1 := ⟨n - 1, by simp at hn; omega⟩
    obtain ⟨h1, h2, h3⟩ := drop_more hd
    have hlt := drop_lt hd
    unfold ref22_Quality_L2
    rw [if_pos (by simp; omega), w64n (show i < 9223372036854775807 by omega), List.any_cons]
    cases f with
    | true =>
      rw [if_pos rfl, Option.bind_some, ih (i + 1) n true h3 (by omega) (by simp at hn; omega)]
      simp
    | false =>
      have e : ((cls x : Int) == (k : Int)) = (cls x == k) := by rw [Bool.eq_iff_iff, beq_iff_eq, beq_iff_eq]; omega
      rw [if_neg (by simp), chk_t (by rw [inb_n]; exact decide_eq_true hlt), byteAt_some h2, class_same, class_eq, Option.bind_some, e, Option.bind_some, ih (i + 1) n _ h3 (by omega) (by simp at hn; omega)]
      simp
theorem ref22_Quality_eq (p u : Str) (hp : p.length ≤ 400) (hu : u.length ≤ 400) : ref22_Quality p u = some (quaS p u) := by
  unfold ref22_Quality quaS
  rw [ref22_Password_eq p (by unfold fits; omega), Option.bind_some]
  cases pwS p with
  | false => rfl
  | true =>
    rw [Bool.not_true, if_neg (by simp), if_neg (by simp)]
    have r0 := b01_range (exC p 0)
    have r1 := b01_range (exC p 1)
    have r2 := b01_range (exC p 2)
    have r3 := b01_range (exC p 3)
    have hF : p.length < fuel := by unfold fuel; omega
    obtain ⟨m, hm⟩ : ∃ m, fuel = m + 5 := ⟨fuel - 5, by unfold fuel; omega⟩
    have step : ∀ (q k : Nat) (c : Int), k < 4 → 0 ≤ c ∧ c ≤ 4 → ref22_Quality_L1 (q + 1) p u c (k : Int) = ref22_Quality_L1 q p u (c + b01 (exC p k)) ((k + 1 : Nat) : Int) := by
      intro q k c hk hc
      have := rquality_two (ref22_Quality_L1 q) p u hp c k hk hc p 0 fuel false rfl (by omega) hF
      have e : (false || p.any fun x => cls x == k) = exC p k := by rw [Bool.false_or]; rfl
      rw [e] at this
      conv => lhs; unfold ref22_Quality_L1
      rw [if_pos (by simp; omega)]
      exact this
    have s0 := step (m + 4) 0 0 (by omega) (by omega)
    have s1 := step (m + 3) 1 (0 + b01 (exC p 0)) (by omega) (by omega)
    have s2 := step (m + 2) 2 (0 + b01 (exC p 0) + b01 (exC p 1)) (by omega) (by omega)
    have s3 := step (m + 1) 3 (0 + b01 (exC p 0) + b01 (exC p 1) + b01 (exC p 2)) (by omega) (by omega)
    rw [hm]
    have s0' : ref22_Quality_L1 (m + 5) p u 0 0 = ref22_Quality_L1 (m + 4) p u (0 + b01 (exC p 0)) ((0 + 1 : Nat) : Int) := s0
    rw [s0', s1, s2, s3]
    unfold ref22_Quality_L1
    rw [if_neg (by decide), Int.zero_add]
    have es : b01 (exC p 0) + b01 (exC p 1) + b01 (exC p 2) + b01 (exC p 3) = sumC p := rfl
    rw [es]
    by_cases hs : sumC p < 3
    · rw [if_pos (decide_eq_true hs), if_pos hs, Option.bind_some, if_pos rfl]
    · rw [if_neg (by simpa using hs), if_neg hs]
      by_cases h3 : 3 ≤ u.length
      · rw [if_pos (by simp; omega), ref01_Lower_eq p (by omega), ref01_Lower_eq u (by omega), Option.bind_some, Option.bind_some, ref22_contains_eq _ _ (by rw [low_len]; omega) (by rw [low_len]; omega), Option.bind_some, Option.bind_some, Option.bind_some, decide_eq_true h3, Bool.true_and]
        split <;> rfl
      · rw [if_neg (by simp; omega), Option.bind_some, Option.bind_some, if_neg (by simp), decide_eq_false h3, Bool.false_and, if_neg (by simp)]
theorem quality_true (p u : Str) : law22_SecretQuality p u = some true := by
  unfold law22_SecretQuality
  by_cases h1 : p.length > 400
  · rw [if_pos (by simp; omega), awake22, Option.bind_some]
  by_cases h2 : u.length > 400
  · rw [if_pos (by simp; omega), awake22, Option.bind_some]
  rw [if_neg (by simp; omega), secret_Quality_eq p u (by omega) (by omega), ref22_Quality_eq p u (by omega) (by omega), Option.bind_some, Option.bind_some, if_pos (by simp), awake22]; rfl
end Go.KW.S
