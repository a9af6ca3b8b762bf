/- Own work: a part of the proofs of this seat. -/
import Derived.Test.YteifnoehmfjogaaDoorKwPlain
import Derived.Test.YteifnoehmfjogaaDoorKwMapP
import Derived.Test.YteifnoehmfjogaaDoorKwLS
import Derived.KernelRfl
import Derived.Lib.IndexMore
import Derived.Lib.CountLaws
import Derived.Laws.RangeString
import Derived.Laws.RangeAny
set_option linter.unusedVariables false
set_option linter.unusedSimpArgs false
namespace Go.KW.S
open Go Go.KW
/-! ### words -/
def isW (c : Int) : Bool := (((decide (c ≥ 65) && decide (c ≤ 90)) || (decide (c ≥ 97) && decide (c ≤ 122))) || (decide (c ≥ 48) && decide (c ≤ 57))) || c == 45 || c == 95 || c == 46 || c == 58
def word (s : Str) : Bool := s.all (fun u => isW u.toNat) && (decide (1 ≤ s.length) && decide (s.length ≤ 64))

theorem fold_Word_1_eq (c : Int) : fold_Word_1 c = some (isW c) := by
  simp only [fold_Word_1, fold_letter, fold_upper, fold_digit, isW, Option.bind_some]
  cases (decide (c ≥ 65) && decide (c ≤ 90)) <;> cases (decide (c ≥ 97) && decide (c ≤ 122)) <;> simp
theorem fold_made_eq (s : Str) (hs : fits s) : fold_made__Word_1 s = some (word s) := by
  have key : ∀ (r : Str) (i n : Nat), s.drop i = r → i ≤ s.length → r.length < n →
      fold_made__Word_1_L1 n s (s.length : Int) (i : Int) = some (r.all (fun u => isW u.toNat) && (decide (1 ≤ s.length) && decide (s.length ≤ 64))) := by
    intro r
    induction r with
    | nil =>
      intro i n hd hi hn
      obtain ⟨n, rfl⟩ : ∃ k, n = k + 1 := ⟨n - 1, by simp at hn; omega⟩
      have := drop_nil hd
      simp only [fold_made__Word_1_L1, show ¬ ((i : Int) < s.length) by omega, decide_false, Bool.false_eq_true, if_false, List.all_nil, Bool.true_and, Option.some.injEq]
      rw [Bool.eq_iff_iff]; cases s <;> simp <;> omega
    | cons u r ih =>
      intro i n hd hi hn
      obtain ⟨n, rfl⟩ : ∃ k, n = k + 1 := ⟨n - 1, by simp at hn; omega⟩
      obtain ⟨h1, h2, h3⟩ := drop_more hd
      have hlt := drop_lt hd
      have := hs; unfold fits at this
      simp only [fold_made__Word_1_L1, show ((i : Int) < s.length) by omega, decide_true, if_true, inb_n, h1, chk_true, byteAt_some h2, fold_Word_1_eq, Option.bind_some, w64n (show i < 9223372036854775807 by omega), List.all_cons]
      cases isW u.toNat with
      | false => simp
      | true => simpa using ih (i + 1) n h3 (by omega) (by simp at hn; omega)
  exact key s 0 fuel rfl (by omega) (fuel_pos hs)
theorem fold_Word_eq (s : Str) (hs : fits s) : fold_Word s = some (word s) := by
  simp [fold_Word, fold_made_eq s hs]

theorem ref01_Word_eq (s : Str) (hs : fits s) : ref01_Word s = some (word s) := by
  have key : ∀ (r : Str) (i n : Nat), s.drop i = r → i ≤ s.length → r.length < n →
      ref01_Word_L1 n s (i : Int) = some (r.all (fun u => isW u.toNat) && (decide (1 ≤ s.length) && decide (s.length ≤ 64))) := by
    intro r
    induction r with
    | nil =>
      intro i n hd hi hn
      obtain ⟨n, rfl⟩ : ∃ k, n = k + 1 := ⟨n - 1, by simp at hn; omega⟩
      have := drop_nil hd
      simp only [ref01_Word_L1, show ¬ ((i : Int) < s.length) by omega, decide_false, Bool.false_eq_true, if_false, List.all_nil, Bool.true_and, Option.some.injEq]
      rw [Bool.eq_iff_iff]; simp; omega
    | cons u r ih =>
      intro i n hd hi hn
      obtain ⟨n, rfl⟩ : ∃ k, n = k + 1 := ⟨n - 1, by simp at hn; omega⟩
      obtain ⟨h1, h2, h3⟩ := drop_more hd
      have hlt := drop_lt hd
      have := hs; unfold fits at this
      have ih' := ih (i + 1) n h3 (by omega) (by simp at hn; omega)
      have e : isW u.toNat = ((((((decide ((u.toNat : Int) ≥ 65) && decide ((u.toNat : Int) ≤ 90)) || (decide ((u.toNat : Int) ≥ 97) && decide ((u.toNat : Int) ≤ 122))) || (decide ((u.toNat : Int) ≥ 48) && decide ((u.toNat : Int) ≤ 57))) || (u.toNat : Int) == 45) || (u.toNat : Int) == 95) || (u.toNat : Int) == 46 || (u.toNat : Int) == 58) := by
        simp [isW, Bool.or_assoc]
      simp only [ref01_Word_L1, show ((i : Int) < s.length) by omega, decide_true, if_true, inb_n, h1, chk_true, byteAt_some h2, ref01_letter, ref01_digit, Option.bind_some, w64n (show i < 9223372036854775807 by omega), List.all_cons, ih', e, bne]
      generalize (r.all fun u => isW u.toNat) = q
      generalize (decide ((u.toNat : Int) ≥ 97) && decide ((u.toNat : Int) ≤ 122)) = a
      generalize (decide ((u.toNat : Int) ≥ 65) && decide ((u.toNat : Int) ≤ 90)) = b
      generalize (decide ((u.toNat : Int) ≥ 48) && decide ((u.toNat : Int) ≤ 57)) = c
      generalize ((u.toNat : Int) == 45) = d
      generalize ((u.toNat : Int) == 95) = e1
      generalize ((u.toNat : Int) == 46) = f
      generalize ((u.toNat : Int) == 58) = g
      cases a <;> cases b <;> cases c <;> cases d <;> cases e1 <;> cases f <;> cases g <;> simp
  exact key s 0 fuel rfl (by omega) (fuel_pos hs)
/-- an instant by Rule 6 -/
def lim (t : Int) : Int := gmin (gmax t 0) 1099511627776
theorem lim_range (t : Int) : 0 ≤ lim t ∧ lim t ≤ 1099511627776 := by unfold lim gmin gmax; split <;> split <;> omega
theorem lim_eq (t : Int) : gmax 0 (gmin t 1099511627776) = lim t := by unfold lim gmin gmax; repeat' split <;> omega
theorem lim_val (t : Int) : lim t = if t < 0 then 0 else if t > 1099511627776 then 1099511627776 else t := by unfold lim gmin gmax; repeat' split <;> omega
theorem lim_lim (a : Int) : lim (lim a) = lim a := by have := lim_range a; rw [lim_val (lim a)]; split <;> (try split) <;> omega
theorem put_set {K V : Type} [DecidableEq K] {key : K} {r x : V} : ∀ {l : List (K × V)} {k : Nat}, l[k]? = some (key, r) → (∀ q ∈ l.take k, q.1 ≠ key) → mputL key x l = l.set k (key, x)
  | [], k, h, _ => by simp at h
  | p :: l, 0, h, _ => by
    simp at h; subst h
    simp [mputL]
  | p :: l, k + 1, h, ht => by
    have hp := ht p (by simp)
    unfold mputL
    rw [if_neg (fun e => hp e.symm), put_set (k := k) (by simpa using h) (fun q hq => ht q (by simp [hq]))]
    rfl
theorem del_cut {K V : Type} [DecidableEq K] {key : K} {r : V} : ∀ {l : List (K × V)} {k : Nat}, l[k]? = some (key, r) → (∀ q ∈ l.take k, q.1 ≠ key) → mdelL key l = l.take k ++ l.drop (k + 1)
  | [], k, h, _ => by simp at h
  | p :: l, 0, h, _ => by
    simp at h; subst h
    simp [mdelL]
  | p :: l, k + 1, h, ht => by
    have hp := ht p (by simp)
    unfold mdelL
    rw [if_neg (fun e => hp e.symm), del_cut (k := k) (by simpa using h) (fun q hq => ht q (by simp [hq]))]
    rfl
theorem put_none {K V : Type} [DecidableEq K] {key : K} {x : V} : ∀ {l : List (K × V)}, mfind key l = none → mputL key x l = l ++ [(key, x)]
  | [], _ => rfl
  | p :: l, h => by
    unfold mfind at h
    split at h
    · cases h
    · rename_i e
      unfold mputL
      rw [if_neg e, put_none h]; rfl
/-! ### locks -/
theorem opt_cases {α : Type} (o : Option α) : o = none ∨ ∃ r, o = some r := by cases o <;> simp
def addS (a b : Int) : Int := lim (lim a + lim b)
theorem clock_Add_eq (a b : Int) : clock_Add a b = some (addS a b) := by
  unfold clock_Add addS
  have h1 := lim_range a
  have h2 := lim_range b
  have e : ∀ t, clock_limited t = some (lim t) := fun t => rfl
  rw [e, e, Option.bind_some, Option.bind_some, w64 (by omega) (by omega), e, Option.bind_some]
theorem ref04_Add_eq (a b : Int) : ref04_Add a b = some (addS a b) := by
  unfold ref04_Add addS
  have h1 := lim_range a
  have h2 := lim_range b
  have e : ∀ t, ref04_Limit t = some (lim t) := fun t => by unfold ref04_Limit; rw [lim_eq]
  rw [e, e, Option.bind_some, Option.bind_some, w64 (by omega) (by omega), e, Option.bind_some]
theorem addS_0 (a : Int) : addS a 0 = lim a := by
  unfold addS
  have : lim 0 = 0 := rfl
  rw [this, Int.add_zero, lim_lim]
theorem rlim_eq (t : Int) : ref22_Limited t = some (lim t) := by unfold ref22_Limited; rw [lim_eq]
abbrev LL := List (Str × secret_record)
def one (w now t : Int) : Bool := decide (t ≤ now) && decide (now - t < w)
def cnt (w : Int) (ts : List Int) (now : Int) : Int := ((ts.filter (one w now)).length : Int)
structure goodR (r : secret_record) : Prop where
  len : r.times.length ≤ 256
  rng : ∀ t ∈ r.times, 0 ≤ t ∧ t ≤ 1099511627776
def zr : secret_record := ⟨[], 0⟩
theorem goodR_z : goodR zr := ⟨by simp [zr], fun t h => by simp [zr] at h⟩
theorem cnt_nil (w now : Int) : cnt w [] now = 0 := rfl
theorem count_eq (k : secret_Locks) (r : secret_record) (now : Int) (hr : ∀ t ∈ r.times, 0 ≤ t ∧ t ≤ 1099511627776) (hl : r.times.length ≤ 1000) (hn : 0 ≤ now ∧ now ≤ 1099511627776) : secret_Locks_count k r now = some (cnt k.window r.times now) := by
  have key : ∀ (s : List Int) (i n : Nat) (c : Nat), r.times.drop i = s → s.length < n → c ≤ i → secret_Locks_count_L1 n k now (c : Int) r.times (r.times.length : Int) (i : Int) = some ((c : Int) + cnt k.window s now) := by
    intro s
    induction s with
    | nil =>
      intro i n c hd hn hc
      obtain ⟨n, rfl⟩ : ∃ k, n = k + 1 := ⟨n - 1, by simp at hn; omega⟩
      have := drop_nil hd
      unfold secret_Locks_count_L1
      rw [if_neg (by simp; omega), cnt_nil, Int.add_zero]
    | cons x s ih =>
      intro i n c hd hn' hc
      obtain ⟨n, rfl⟩ : ∃ k, n = k + 1 := ⟨n - 1, by simp at hn'; omega⟩
      obtain ⟨h1, h2, h3⟩ := drop_more hd
      have hlt := drop_lt hd
      have hx := hr x (List.mem_of_getElem? h2)
      have hc1 : one k.window now x = (decide (x ≤ now) && decide (now - x < k.window)) := rfl
      unfold secret_Locks_count_L1
      rw [if_pos (by simp; omega), idx_n, h2, Option.bind_some, w64 (x := now - x) (by omega) (by omega), ← hc1]
      unfold secret_Locks_count_B2
      rw [w64n (show i < 9223372036854775807 by omega)]
      by_cases ho : one k.window now x = true
      · rw [if_pos ho]
        have e : IntKind.i64.wrap ((c : Int) + 1) = ((c + 1 : Nat) : Int) := w64n (by omega)
        rw [e, ih (i + 1) n (c + 1) h3 (by simp at hn'; omega) (by omega)]
        unfold cnt
        rw [List.filter_cons, if_pos ho]
        simp only [List.length_cons]
        congr 1; omega
      · rw [if_neg ho, ih (i + 1) n c h3 (by simp at hn'; omega) (by omega)]
        unfold cnt
        rw [List.filter_cons, if_neg ho]
  unfold secret_Locks_count
  have := key r.times 0 fuel 0 rfl (by unfold fuel; omega) (by omega)
  rw [show ((0 : Nat) : Int) = 0 from rfl, Int.zero_add] at this
  exact this
/-- the times behind a failure -/
def tsF (ts : List Int) (t : Int) : List Int := if (ts ++ [t]).length > 256 then (ts ++ [t]).drop 1 else ts ++ [t]
def failR (most w lock : Int) (r : secret_record) (t : Int) : secret_record :=
  if t < r.until_ ∨ cnt w (tsF r.times t) t ≥ most then ⟨tsF r.times t, gmax r.until_ (addS t lock)⟩ else ⟨tsF r.times t, r.until_⟩
def failL (most w lock : Int) (l : LL) (u : Str) (now : Int) : LL :=
  if word u = false then l else if mfind u l = none ∧ 256 ≤ l.length then l else mputL u (failR most w lock ((mfind u l).getD zr) (lim now)) l
theorem tsF_len {ts : List Int} {t : Int} (h : ts.length ≤ 256) : (tsF ts t).length ≤ 256 := by
  unfold tsF
  split
  · simp; omega
  · simp at *; omega
theorem tsF_mem {ts : List Int} {t x : Int} (h : x ∈ tsF ts t) : x ∈ ts ∨ x = t := by
  unfold tsF at h
  split at h
  · have := List.mem_of_mem_drop h
    simpa using this
  · simpa using h
structure InvL (l : LL) : Prop where
  nd : nodupK l
  len : l.length ≤ 256
  good : ∀ p ∈ l, goodR p.2
theorem invL_nil : InvL [] := ⟨nodupK_nil, by simp, fun p h => by cases h⟩
theorem goodR_fail {r : secret_record} (h : goodR r) (most w lock now : Int) : goodR (failR most w lock r (lim now)) := by
  have hl := tsF_len (t := lim now) h.len
  have hm : ∀ t ∈ tsF r.times (lim now), 0 ≤ t ∧ t ≤ 1099511627776 := fun t ht => by
    rcases tsF_mem ht with ht | rfl
    · exact h.rng t ht
    · exact lim_range now
  unfold failR
  split
  · exact ⟨hl, hm⟩
  · exact ⟨hl, hm⟩
theorem InvL.get {l : LL} (h : InvL l) (u : Str) : goodR ((mfind u l).getD zr) := by
  rcases opt_cases (mfind u l) with e | ⟨r, e⟩
  · rw [e]; exact goodR_z
  · rw [e]; exact h.good _ (mfind_mem e)
theorem invL_fail {l : LL} (h : InvL l) (most w lock : Int) (u : Str) (now : Int) : InvL (failL most w lock l u now) := by
  unfold failL
  split
  · exact h
  split
  · exact h
  · rename_i h1
    refine ⟨nodupK_put h.nd, ?_, fun p hp => ?_⟩
    · rw [len_put]
      have := h.len
      split
      · exact this
      · rename_i hs
        rcases opt_cases (mfind u l) with e | ⟨r, e⟩
        · have : ¬ 256 ≤ l.length := fun h' => h1 ⟨e, h'⟩
          omega
        · rw [e] at hs; simp at hs
    · rcases mem_put hp with rfl | hp
      · exact goodR_fail (h.get u) _ _ _ _
      · exact h.good p hp
theorem put_put {k : Str} {x y : secret_record} : ∀ l : LL, mputL k x (mputL k y l) = mputL k x l
  | [] => by simp [mputL]
  | p :: l => by
    by_cases e : k = p.1
    · simp only [mputL, if_pos e, if_true]
    · simp only [mputL, if_neg e, put_put l]
theorem mgetP_some (l : LL) (u : Str) : mgetP (some l) u = mfind u l := rfl
theorem mput_some (l : LL) (u : Str) (x : secret_record) : mput (some l) u x = some (mputL u x l) := rfl
theorem mlen_some {K V : Type} (l : List (K × V)) : mlen (some l) = (l.length : Int) := by unfold mlen; simp
theorem fail_two (most w lock : Int) (l : LL) (u : Str) (ts : List Int) (unt t : Int) (b : Bool) (hts : ts.length ≤ 256) (hr : ∀ x ∈ ts, 0 ≤ x ∧ x ≤ 1099511627776) (ht : 0 ≤ t ∧ t ≤ 1099511627776) :
    secret_Locks_Fail_B2 ⟨most, w, lock, some (mputL u ⟨ts, unt⟩ l)⟩ t b u = some ⟨most, w, lock, some (mputL u (if b = true ∨ cnt w ts t ≥ most then ⟨ts, gmax unt (addS t lock)⟩ else ⟨ts, unt⟩) l)⟩ := by
  have hg : mgetP (some (mputL u ⟨ts, unt⟩ l)) u = some ⟨ts, unt⟩ := by rw [mgetP_some, mfind_put_self]
  have hc : secret_Locks_count ⟨most, w, lock, some (mputL u ⟨ts, unt⟩ l)⟩ ⟨ts, unt⟩ t = some (cnt w ts t) := count_eq _ _ _ hr (by simp only; omega) ht
  have e : (if b = true then some true else some (decide (cnt w ts t ≥ most))) = some (b || decide (cnt w ts t ≥ most)) := by cases b <;> rfl
  unfold secret_Locks_Fail_B2
  simp only [hg, Option.bind_some, hc, clock_Add_eq, mput_some, put_put]
  rw [e, Option.bind_some]
  by_cases h : b = true ∨ cnt w ts t ≥ most
  · rw [if_pos (by simpa using h), if_pos h]
  · rw [if_neg (by simpa using h), if_neg h]
theorem fail_one (most w lock : Int) (l : LL) (u : Str) (r : secret_record) (hr : goodR r) (now : Int) (h : mfind u l = some r) :
    secret_Locks_Fail_B1 ⟨most, w, lock, some l⟩ now u = some ⟨most, w, lock, some (mputL u (failR most w lock r (lim now)) l)⟩ := by
  have hl := hr.len
  have hlim := lim_range now
  have hts := tsF_len (t := lim now) hl
  have hm : ∀ t ∈ tsF r.times (lim now), 0 ≤ t ∧ t ≤ 1099511627776 := fun t ht => by
    rcases tsF_mem ht with ht | rfl
    · exact hr.rng t ht
    · exact lim_range now
  have two := fail_two most w lock l u (tsF r.times (lim now)) r.until_ (lim now) (decide (lim now < r.until_)) hts hm hlim
  have e : (if decide (lim now < r.until_) = true ∨ cnt w (tsF r.times (lim now)) (lim now) ≥ most then (⟨tsF r.times (lim now), gmax r.until_ (addS (lim now) lock)⟩ : secret_record) else ⟨tsF r.times (lim now), r.until_⟩) = failR most w lock r (lim now) := by
    unfold failR; simp only [decide_eq_true_eq]
  rw [e] at two
  unfold secret_Locks_Fail_B1
  rw [clock_Add_eq, addS_0, Option.bind_some, mgetP_some, h, Option.bind_some, chk_t (by simp [fitL]; omega)]
  simp only [mput_some]
  unfold tsF at two
  by_cases hc : (r.times ++ [lim now]).length > 256
  · rw [if_pos hc] at two
    have hin : inc 1 ((r.times ++ [lim now]).length : Nat) (r.times ++ [lim now]).length = true := by
      have := inc_n (i := 1) (j := (r.times ++ [lim now]).length) (n := (r.times ++ [lim now]).length)
      rw [show (((1 : Nat) : Int)) = 1 from rfl] at this
      rw [this]; simp
    have hcut : cut (r.times ++ [lim now]) 1 ((r.times ++ [lim now]).length : Nat) = (r.times ++ [lim now]).drop 1 := by
      have := cut_n (r.times ++ [lim now]) 1 (r.times ++ [lim now]).length
      rw [show (((1 : Nat) : Int)) = 1 from rfl] at this
      rw [this, List.take_of_length_le]
      rw [List.length_drop]; omega
    rw [if_pos (by rw [decide_eq_true_eq]; omega), chk_t hin, hcut]
    exact two
  · rw [if_neg hc] at two
    rw [if_neg (by rw [decide_eq_true_eq]; omega)]
    exact two
theorem fail_eq (most w lock : Int) {l : LL} (h : InvL l) (u : Str) (now : Int) (hu : fits u) : secret_Locks_Fail ⟨most, w, lock, some l⟩ u now = some ⟨most, w, lock, some (failL most w lock l u now)⟩ := by
  have hl := h.len
  unfold secret_Locks_Fail failL
  have hm : (some l : GMap Str secret_record).isNone = false := rfl
  have hs : (some l : GMap Str secret_record).isSome = true := rfl
  simp only [hm, Bool.false_eq_true, if_false, fold_Word_eq u hu, Option.bind_some, mgetP_some, mlen_some, mput_some, put_put]
  cases hw : word u with
  | false => simp
  | true =>
    rw [Bool.not_true, if_neg (show ¬ (false = true) by simp), if_neg (show ¬ (true = false) by simp)]
    rcases opt_cases (mfind u l) with e | ⟨r, e⟩
    · rw [e]
      by_cases h6 : 256 ≤ l.length
      · rw [if_pos (show (none : Option secret_record).isNone = true from rfl), if_pos (by rw [decide_eq_true_eq]; omega), if_pos ⟨rfl, h6⟩]
      · rw [if_pos (show (none : Option secret_record).isNone = true from rfl), if_neg (by rw [decide_eq_true_eq]; omega), if_neg (fun h => h6 h.2), chk_t hs]
        have := fail_one most w lock (mputL u zr l) u zr goodR_z now mfind_put_self
        rw [put_put] at this
        exact this
    · rw [e, if_neg (by simp), if_neg (show ¬ (some r = none ∧ 256 ≤ l.length) by simp)]
      exact fail_one most w lock l u r (by have := h.get u; rw [e] at this; exact this) now e
def lockedS (l : LL) (u : Str) (now : Int) : Bool := match mfind u l with | none => false | some r => decide (lim now < r.until_)
def failsS (w : Int) (l : LL) (u : Str) (now : Int) : Int := match mfind u l with | none => 0 | some r => cnt w r.times (lim now)
theorem locked_eq (most w lock : Int) (l : LL) (u : Str) (now : Int) : secret_Locks_Locked ⟨most, w, lock, some l⟩ u now = some (lockedS l u now) := by
  unfold secret_Locks_Locked lockedS
  simp only [mgetP_some, clock_Add_eq, addS_0, Option.bind_some]
  rcases opt_cases (mfind u l) with e | ⟨r, e⟩ <;> rw [e] <;> rfl
theorem failures_eq (most w lock : Int) {l : LL} (h : InvL l) (u : Str) (now : Int) : secret_Locks_Failures ⟨most, w, lock, some l⟩ u now = some (failsS w l u now) := by
  unfold secret_Locks_Failures failsS
  simp only [mgetP_some, clock_Add_eq, addS_0, Option.bind_some]
  rcases opt_cases (mfind u l) with e | ⟨r, e⟩
  · rw [e]; rfl
  · rw [e]
    have hr := h.good _ (mfind_mem e)
    have hl := hr.len
    simp only [Option.isNone_some, Bool.false_eq_true, if_false, Option.bind_some]
    rw [count_eq _ _ _ hr.rng (by omega) (lim_range now), Option.bind_some]
theorem clear_eq (most w lock : Int) (l : LL) (u : Str) : secret_Locks_Clear ⟨most, w, lock, some l⟩ u = some ⟨most, w, lock, some (mdelL u l)⟩ := rfl
theorem invL_del {l : LL} (h : InvL l) (u : Str) : InvL (mdelL u l) := by
  refine ⟨nodupK_del h.nd, ?_, fun p hp => h.good p (mem_del hp)⟩
  have := len_del (k := u) h.nd
  have := h.len
  omega
/-- the locks that a call makes -/
def newE (most window lock : Int) : Bool := ((decide (most < 1) || decide (most > 256)) || decide (lim window < 1)) || decide (lim lock < 1)
theorem new_eq (most window lock : Int) : secret_NewLocks most window lock = some (if newE most window lock then (none, 2) else (some ⟨most, lim window, lim lock, some []⟩, 0)) := by
  unfold secret_NewLocks newE
  rw [clock_Add_eq, clock_Add_eq, addS_0, addS_0, Option.bind_some, Option.bind_some]
  split <;> rfl
/-! ### the specification's locks -/
abbrev toRec (p : Str × secret_record) : ref22_record := ⟨p.1, p.2.times, p.2.until_⟩
abbrev rk (most w lock : Int) (l : LL) : ref22_Locks := ⟨true, most, w, lock, l.map toRec⟩
theorem rnew_eq (most window lock : Int) : ref22_NewLocks most window lock = some (if newE most window lock then (none, 2) else (some (rk most (lim window) (lim lock) []), 0)) := by
  unfold ref22_NewLocks newE
  rw [rlim_eq, rlim_eq, Option.bind_some, Option.bind_some]
  split <;> rfl
structure AtL (l : LL) (u : Str) (k : Nat) (r : secret_record) : Prop where
  get : l[k]? = some (u, r)
  pre : ∀ q ∈ l.take k, q.1 ≠ u
theorem AtL.lt {l : LL} {u : Str} {k : Nat} {r : secret_record} (h : AtL l u k r) : k < l.length := (List.getElem?_eq_some_iff.1 h.get).1
theorem AtL.ix {l : LL} {u : Str} {k : Nat} {r : secret_record} (h : AtL l u k r) : idx (l.map toRec) (k : Int) = some (toRec (u, r)) := by rw [idx_n, List.getElem?_map, h.get]; rfl
theorem AtL.put {l : LL} {u : Str} {k : Nat} {r x : secret_record} (h : AtL l u k r) : setAt (l.map toRec) (k : Int) (toRec (u, x)) = (mputL u x l).map toRec := by
  rw [put_set h.get h.pre, List.map_set]
  simp [setAt]
theorem AtL.next {l : LL} {u : Str} {k : Nat} {r : secret_record} (h : AtL l u k r) (x : secret_record) : AtL (mputL u x l) u k x := by
  have hlt := h.lt
  rw [put_set h.get h.pre]
  refine ⟨by rw [List.getElem?_set_self hlt], fun q hq => ?_⟩
  rw [List.take_set_of_le (Nat.le_refl _)] at hq
  exact h.pre q hq
theorem rfind_loop (most w lock : Int) (l : LL) (u : Str) (hl : l.length ≤ 1000) : ∀ (s : LL) (j n : Nat), l.drop j = s → s.length < n → (∀ q ∈ l.take j, q.1 ≠ u) →
    (∃ (k : Nat) (x : secret_record), ref22_Locks_find_L1 n (rk most w lock l) u (j : Int) = some (k : Int) ∧ AtL l u k x) ∨ (ref22_Locks_find_L1 n (rk most w lock l) u (j : Int) = some (-1) ∧ ∀ q ∈ l, q.1 ≠ u) := by
  intro s
  induction s with
  | nil =>
    intro j n hd hn ht
    obtain ⟨n, rfl⟩ : ∃ k, n = k + 1 := ⟨n - 1, by simp at hn; omega⟩
    have := drop_nil hd
    rw [List.take_of_length_le this] at ht
    refine .inr ⟨?_, ht⟩
    simp only [ref22_Locks_find_L1, List.length_map, show ¬ ((j : Int) < l.length) by omega, decide_false, Bool.false_eq_true, if_false]
  | cons x s ih =>
    intro j n hd hn ht
    obtain ⟨n, rfl⟩ : ∃ k, n = k + 1 := ⟨n - 1, by simp at hn; omega⟩
    obtain ⟨h1, h2, h3⟩ := drop_more hd
    have hlt := drop_lt hd
    have e : ref22_Locks_find_L1 (n + 1) (rk most w lock l) u (j : Int) = if x.1 == u then some (j : Int) else ref22_Locks_find_L1 n (rk most w lock l) u ((j + 1 : Nat) : Int) := by
      simp only [ref22_Locks_find_L1, List.length_map, show ((j : Int) < l.length) by omega, decide_true, if_true, idx_n, List.getElem?_map, h2, Option.map_some, Option.bind_some, w64n (show j < 9223372036854775807 by omega)]
    rw [e]
    by_cases hx : (x.1 == u) = true
    · rw [if_pos hx]
      simp only [beq_iff_eq] at hx
      refine .inl ⟨j, x.2, rfl, ?_, ht⟩
      rw [h2, ← hx]
    · rw [if_neg hx]
      refine ih (j + 1) n h3 (by simp at hn; omega) fun q hq => ?_
      rw [take_more hd] at hq
      rcases List.mem_append.1 hq with hq | hq
      · exact ht q hq
      · simp at hq; subst hq
        simpa using hx
theorem rfind (most w lock : Int) {l : LL} (h : InvL l) (u : Str) :
    (∃ (k : Nat) (x : secret_record), ref22_Locks_find (rk most w lock l) u = some (k : Int) ∧ AtL l u k x ∧ mfind u l = some x) ∨ (ref22_Locks_find (rk most w lock l) u = some (-1) ∧ mfind u l = none) := by
  have hl := h.len
  rcases rfind_loop most w lock l u (by omega) l 0 fuel rfl (by unfold fuel; omega) (by simp) with ⟨k, x, h1, h2⟩ | ⟨h1, h2⟩
  · exact .inl ⟨k, x, h1, h2, mfind_of_mem h.nd (List.mem_of_getElem? h2.get)⟩
  · exact .inr ⟨h1, mfind_none.2 h2⟩
theorem rmade_eq (most w lock : Int) (l : LL) : ref22_Locks_Made (rk most w lock l) = some true := rfl
theorem rlocked_eq (most w lock : Int) {l : LL} (h : InvL l) (u : Str) (now : Int) : ref22_Locks_Locked (rk most w lock l) u now = some (lockedS l u now) := by
  unfold ref22_Locks_Locked lockedS
  rw [rmade_eq, Option.bind_some, if_neg (by simp), rlim_eq]
  rcases rfind most w lock h u with ⟨k, x, f1, f2, f3⟩ | ⟨f1, f2⟩
  · rw [f1, Option.bind_some, if_pos (by simp), Option.bind_some, f2.ix, Option.bind_some, f3]; rfl
  · rw [f1, Option.bind_some, if_neg (by decide), f2]; rfl
theorem rfailures_at (most w lock : Int) (l : LL) (u : Str) (k : Nat) (r : secret_record) (hk : AtL l u k r) (hr : goodR r) (now : Int) (hn : 0 ≤ now ∧ now ≤ 1099511627776) :
    ∀ (s : List Int) (j n : Nat) (c : Nat), r.times.drop j = s → s.length < n → c ≤ j → ref22_Locks_Failures_L1 n (rk most w lock l) now (k : Int) (c : Int) (j : Int) = some ((c : Int) + cnt w s now) := by
  intro s
  have hl := hr.len
  induction s with
  | nil =>
    intro j n c hd hn' hc
    obtain ⟨n, rfl⟩ : ∃ k, n = k + 1 := ⟨n - 1, by simp at hn'; omega⟩
    have := drop_nil hd
    unfold ref22_Locks_Failures_L1
    rw [if_pos (by simp), hk.ix, Option.bind_some, Option.bind_some, if_neg (by simp; omega), cnt_nil, Int.add_zero]
  | cons x s ih =>
    intro j n c hd hn' hc
    obtain ⟨n, rfl⟩ : ∃ k, n = k + 1 := ⟨n - 1, by simp at hn'; omega⟩
    obtain ⟨h1, h2, h3⟩ := drop_more hd
    have hlt := drop_lt hd
    have hx := hr.rng x (List.mem_of_getElem? h2)
    have hix : idx r.times (j : Int) = some x := by rw [idx_n, h2]
    have hc1 : one w now x = (decide (x ≤ now) && decide (now - x < w)) := rfl
    unfold ref22_Locks_Failures_L1
    rw [if_pos (by simp), hk.ix, Option.bind_some, Option.bind_some, if_pos (by simp; omega), Option.bind_some]
    simp only [hix, Option.bind_some]
    rw [w64 (x := now - x) (by omega) (by omega), ← hc1]
    unfold ref22_Locks_Failures_B2
    rw [w64n (show j < 9223372036854775807 by omega)]
    by_cases ho : one w now x = true
    · rw [if_pos ho]
      have e : IntKind.i64.wrap ((c : Int) + 1) = ((c + 1 : Nat) : Int) := w64n (by omega)
      rw [e, ih (j + 1) n (c + 1) h3 (by simp at hn'; omega) (by omega)]
      unfold cnt
      rw [List.filter_cons, if_pos ho]
      simp only [List.length_cons]
      congr 1; omega
    · rw [if_neg ho, ih (j + 1) n c h3 (by simp at hn'; omega) (by omega)]
      unfold cnt
      rw [List.filter_cons, if_neg ho]
theorem rfailures_eq (most w lock : Int) {l : LL} (h : InvL l) (u : Str) (now : Int) : ref22_Locks_Failures (rk most w lock l) u now = some (failsS w l u now) := by
  unfold ref22_Locks_Failures failsS
  rw [rmade_eq, Option.bind_some, if_neg (by simp), rlim_eq, Option.bind_some]
  rcases rfind most w lock h u with ⟨k, x, f1, f2, f3⟩ | ⟨f1, f2⟩
  · have hg := h.good _ (mfind_mem f3)
    have hgl := hg.len
    have hF : x.times.length < fuel := by unfold fuel; simp only at hgl; omega
    have := rfailures_at most w lock l u k x f2 hg (lim now) (lim_range now) x.times 0 fuel 0 rfl hF (by omega)
    rw [show ((0 : Nat) : Int) = 0 from rfl, Int.zero_add] at this
    rw [f1, Option.bind_some, this, f3]
  · rw [f1, Option.bind_some, f2]
    obtain ⟨k, hk⟩ : ∃ k, fuel = k + 1 := ⟨fuel - 1, by unfold fuel; omega⟩
    rw [hk]
    unfold ref22_Locks_Failures_L1
    rw [if_neg (by decide)]; rfl
theorem rclear_eq (most w lock : Int) {l : LL} (h : InvL l) (u : Str) : ref22_Locks_Clear (rk most w lock l) u = some (rk most w lock (mdelL u l)) := by
  unfold ref22_Locks_Clear
  have hl := h.len
  rw [rmade_eq, Option.bind_some, if_neg (by simp)]
  rcases rfind most w lock h u with ⟨k, x, h1, h2, h3⟩ | ⟨h1, h2⟩
  · have hk := h2.lt
    rw [h1, Option.bind_some, if_pos (by simp), del_cut h2.get h2.pre, w64n (show k < 9223372036854775807 by omega), chk_t (by rw [inc_0]; simp; omega), cut_0, chk_t (by simp [fitL]; omega), chk_t (by rw [inc_n]; simp; omega), cut_n, chk_t (by simp [fitL]; omega)]
    rw [List.take_of_length_le (l := (l.map toRec).drop (k + 1)) (by simp)]
    simp [List.map_take, List.map_drop]
  · rw [h1, Option.bind_some, if_neg (by decide), del_none h2]
theorem cut_tail (ts : List Int) (t : Int) (h : ts.length ≤ 256) : inc (gmax 0 (IntKind.i64.wrap ((((ts ++ [t]).length : Nat) : Int) - 256))) ((ts ++ [t]).length : Nat) (ts ++ [t]).length = true ∧ cut (ts ++ [t]) (gmax 0 (IntKind.i64.wrap ((((ts ++ [t]).length : Nat) : Int) - 256))) ((ts ++ [t]).length : Nat) = tsF ts t := by
  have hn : (ts ++ [t]).length ≤ 257 := by simp; omega
  have e : gmax 0 (IntKind.i64.wrap ((((ts ++ [t]).length : Nat) : Int) - 256)) = (((ts ++ [t]).length - 256 : Nat) : Int) := by
    rw [w64 (by omega) (by omega)]
    unfold gmax
    split <;> omega
  rw [e, inc_n, cut_n, List.take_of_length_le (by rw [List.length_drop]; omega)]
  refine ⟨by rw [decide_eq_true_eq]; omega, ?_⟩
  unfold tsF
  by_cases hc : (ts ++ [t]).length > 256
  · rw [if_pos hc, show (ts ++ [t]).length - 256 = 1 by omega]
  · rw [if_neg hc, show (ts ++ [t]).length - 256 = 0 by omega, List.drop_zero]
theorem rfail_one (most w lock : Int) {l : LL} (h : InvL l) (u : Str) (k : Nat) (r : secret_record) (hk : AtL l u k r) (hr : goodR r) (now : Int) :
    ref22_Locks_Fail_B1 (rk most w lock l) u (lim now) (k : Int) = some (rk most w lock (mputL u (failR most w lock r (lim now)) l)) := by
  have hl := hr.len
  obtain ⟨c1, c2⟩ := cut_tail r.times (lim now) hl
  have hm : ∀ t ∈ tsF r.times (lim now), 0 ≤ t ∧ t ≤ 1099511627776 := fun t ht => by
    rcases tsF_mem ht with ht | rfl
    · exact hr.rng t ht
    · exact lim_range now
  have hfnd : mfind u l = some r := mfind_of_mem h.nd (List.mem_of_getElem? hk.get)
  have hI : InvL (mputL u ⟨tsF r.times (lim now), r.until_⟩ l) := by
    refine ⟨nodupK_put h.nd, by rw [len_put, hfnd]; exact h.len, fun p hp => ?_⟩
    rcases mem_put hp with rfl | hp
    · exact ⟨tsF_len hl, hm⟩
    · exact h.good p hp
  have hf : ref22_Locks_Failures (rk most w lock (mputL u ⟨tsF r.times (lim now), r.until_⟩ l)) u (lim now) = some (cnt w (tsF r.times (lim now)) (lim now)) := by
    rw [rfailures_eq most w lock hI]
    unfold failsS
    rw [mfind_put_self, lim_lim]
  have hp1 : setAt (l.map toRec) (k : Int) (ref22_record.mk u (tsF r.times (lim now)) r.until_) = (mputL u ⟨tsF r.times (lim now), r.until_⟩ l).map toRec := hk.put (x := ⟨tsF r.times (lim now), r.until_⟩)
  have hix2 := (hk.next ⟨tsF r.times (lim now), r.until_⟩).ix
  have hp2 : setAt ((mputL u ⟨tsF r.times (lim now), r.until_⟩ l).map toRec) (k : Int) (ref22_record.mk u (tsF r.times (lim now)) (gmax r.until_ (addS (lim now) lock))) = (mputL u ⟨tsF r.times (lim now), gmax r.until_ (addS (lim now) lock)⟩ l).map toRec := by
    have := (hk.next ⟨tsF r.times (lim now), r.until_⟩).put (x := ⟨tsF r.times (lim now), gmax r.until_ (addS (lim now) lock)⟩)
    rw [put_put] at this
    exact this
  have e0 : (if decide (lim now < r.until_) = true then some true else some (decide (cnt w (tsF r.times (lim now)) (lim now) ≥ most))) = some (decide (lim now < r.until_) || decide (cnt w (tsF r.times (lim now)) (lim now) ≥ most)) := by cases decide (lim now < r.until_) <;> rfl
  unfold ref22_Locks_Fail_B1
  simp only [hk.ix, Option.bind_some, List.nil_append]
  rw [chk_t (by simp [fitL]; omega), chk_t (by simp [fitL]; omega), chk_t c1]
  simp only [c2, hp1, hf, hix2, ref04_Add_eq, Option.bind_some, hp2]
  rw [e0, Option.bind_some]
  unfold failR
  by_cases hc : lim now < r.until_ ∨ cnt w (tsF r.times (lim now)) (lim now) ≥ most
  · rw [if_pos (by simpa using hc), if_pos hc]
  · rw [if_neg (by simpa using hc), if_neg hc]
theorem rfail_eq (most w lock : Int) {l : LL} (h : InvL l) (u : Str) (now : Int) (hu : fits u) : ref22_Locks_Fail (rk most w lock l) u now = some (rk most w lock (failL most w lock l u now)) := by
  have hl := h.len
  unfold ref22_Locks_Fail failL
  rw [rmade_eq, Option.bind_some]
  simp only [Bool.not_true, Bool.false_eq_true, if_false, ref01_Word_eq u hu, Option.bind_some, rlim_eq]
  cases hw : word u with
  | false => simp
  | true =>
    rw [Bool.not_true, if_neg (show ¬ (false = true) by simp), if_neg (show ¬ (true = false) by simp)]
    rcases rfind most w lock h u with ⟨k, x, f1, f2, f3⟩ | ⟨f1, f2⟩
    · rw [f1, Option.bind_some, if_neg (by rw [decide_eq_true_eq]; omega), f3, if_neg (show ¬ (some x = none ∧ 256 ≤ l.length) by simp)]
      exact rfail_one most w lock h u k x f2 (h.good _ (mfind_mem f3)) now
    · rw [f1, Option.bind_some, if_pos (by decide), f2]
      by_cases h6 : 256 ≤ l.length
      · rw [if_pos (by rw [decide_eq_true_eq, List.length_map]; omega), if_pos ⟨rfl, h6⟩]
      · rw [if_neg (by rw [decide_eq_true_eq, List.length_map]; omega), if_neg (show ¬ ((none : Option secret_record) = none ∧ 256 ≤ l.length) from fun h => h6 h.2), chk_t (by simp [fitL]; omega)]
        have e1 : (l.map toRec) ++ ([ref22_record.mk u [] 0] : List ref22_record) = (mputL u zr l).map toRec := by rw [put_none f2]; simp [zr]
        have hI : InvL (mputL u zr l) := by
          refine ⟨nodupK_put h.nd, by rw [len_put, f2]; simp; omega, fun p hp => ?_⟩
          rcases mem_put hp with rfl | hp
          · exact goodR_z
          · exact h.good p hp
        have hA : AtL (mputL u zr l) u l.length zr := by
          rw [put_none f2]
          refine ⟨by simp, fun q hq => ?_⟩
          rw [List.take_left] at hq
          exact mfind_none.1 f2 q hq
        have e2 : IntKind.i64.wrap ((((l.map toRec ++ ([ref22_record.mk u [] 0] : List ref22_record)).length : Nat) : Int) - 1) = (l.length : Int) := by
          rw [List.length_append, List.length_map]
          simp only [List.length_cons, List.length_nil]
          rw [w64 (by omega) (by omega)]; omega
        have := rfail_one most w lock hI u l.length zr hA goodR_z now
        rw [put_put] at this
        rw [e2]
        simp only [e1]
        exact this
/-! ### every call -/
theorem light_gate (l : List law22_Op) (hf : fits l) : law22_light l = some false ∨ (law22_light l = some true ∧ l.length ≤ 30 ∧ ∀ o ∈ l, o.User.length ≤ 100) := by
  unfold fits at hf
  have key : ∀ (k i n : Nat), 30 - i = k → k < n → i ≤ 30 → i ≤ l.length → (∀ s ∈ l.take i, s.User.length ≤ 100) → law22_light_L1 n l (i : Int) = some false ∨ (law22_light_L1 n l (i : Int) = some true ∧ l.length ≤ 30 ∧ ∀ o ∈ l, o.User.length ≤ 100) := by
    intro k
    induction k with
    | zero =>
      intro i n hk hn h20 hi ht
      obtain ⟨n, rfl⟩ : ∃ k, n = k + 1 := ⟨n - 1, by omega⟩
      have e : i = 30 := by omega
      subst e
      unfold law22_light_L1
      rw [if_neg (by simp)]
      by_cases h : l.length ≤ 30
      · rw [List.take_of_length_le h] at ht
        exact .inr ⟨by simp; omega, h, ht⟩
      · exact .inl (by simp; omega)
    | succ k ih =>
      intro i n hk hn h20 hi ht
      obtain ⟨n, rfl⟩ : ∃ k, n = k + 1 := ⟨n - 1, by omega⟩
      unfold law22_light_L1
      by_cases hlt : i < l.length
      · have h2 : l[i]? = some l[i] := List.getElem?_eq_getElem hlt
        rw [if_pos (by simp; omega), idx_n, h2, Option.bind_some]
        by_cases h3 : l[i].User.length > 100
        · rw [if_pos (by simp; omega)]; exact .inl rfl
        · rw [if_neg (by simp; omega), w64n (show i < 9223372036854775807 by omega)]
          refine ih (i + 1) n (by omega) (by omega) (by omega) (by omega) fun s hs => ?_
          rw [List.take_add_one, h2] at hs
          rcases List.mem_append.1 hs with hs | hs
          · exact ht s hs
          · simp at hs; subst hs; omega
      · rw [if_neg (by simp; omega)]
        rw [List.take_of_length_le (by omega)] at ht
        by_cases h : l.length ≤ 30
        · exact .inr ⟨by simp; omega, h, ht⟩
        · exact .inl (by simp; omega)
  exact key 30 0 fuel rfl (by unfold fuel; omega) (by omega) (by omega) (by simp)
theorem awake22 : law22_awake = some true := by kernel_rfl
theorem locks_loop (most w lock : Int) (ops : List law22_Op) (hf : ops.length ≤ 30) (ho : ∀ o ∈ ops, o.User.length ≤ 100) :
    ∀ (s : List law22_Op) (i n : Nat) (l : LL), ops.drop i = s → s.length < n → InvL l → law22_SecretLocks_L1 n ops ⟨most, w, lock, some l⟩ (rk most w lock l) (i : Int) = some true := by
  intro s
  induction s with
  | nil =>
    intro i n l hd hn hi
    obtain ⟨n, rfl⟩ : ∃ k, n = k + 1 := ⟨n - 1, by simp at hn; omega⟩
    have := drop_nil hd
    unfold law22_SecretLocks_L1
    rw [if_neg (by simp; omega), awake22]; rfl
  | cons o s ih =>
    intro i n l hd hn hi
    obtain ⟨n, rfl⟩ : ∃ k, n = k + 1 := ⟨n - 1, by simp at hn; omega⟩
    obtain ⟨g1, g2, g3⟩ := drop_more hd
    have hlt := drop_lt hd
    have hou := ho o (List.mem_of_getElem? g2)
    have hu : fits o.User := by unfold fits; omega
    have hix : idx ops (i : Int) = some o := by rw [idx_n, g2]
    have two : ∀ l', InvL l' → law22_SecretLocks_B2 (law22_SecretLocks_L1 n) ops ⟨most, w, lock, some l'⟩ (rk most w lock l') (i : Int) = some true := by
      intro l' hi'
      unfold law22_SecretLocks_B2
      simp only [hix, Option.bind_some, locked_eq, rlocked_eq most w lock hi', failures_eq most w lock hi', rfailures_eq most w lock hi', w64n (show i < 9223372036854775807 by omega)]
      rw [if_neg (by simp), Option.bind_some, if_neg (by simp)]
      exact ih (i + 1) n l' g3 (by simp at hn; omega) hi'
    unfold law22_SecretLocks_L1
    rw [if_pos (by simp; omega)]
    simp only [hix, Option.bind_some, fail_eq most w lock hi o.User _ hu, rfail_eq most w lock hi o.User _ hu, clear_eq, rclear_eq most w lock hi]
    split
    · exact two _ (invL_fail hi _ _ _ _ _)
    · split
      · exact two _ (invL_del hi _)
      · exact two _ hi
theorem optC_none_eq {A B : Type} (k0 : Option B) (k1 : A → Option B) : optC (none : Option A) k0 k1 = k0 := rfl
theorem optC_some_eq {A B : Type} (a : A) (k0 : Option B) (k1 : A → Option B) : optC (some a) k0 k1 = k1 a := rfl
theorem locks_true (most window lock : Int) (ops : List law22_Op) (hf : fits ops) : law22_SecretLocks most window lock ops = some true := by
  unfold law22_SecretLocks
  rcases light_gate ops hf with h | ⟨h, hm, hoo⟩
  · rw [h, Option.bind_some, if_pos (show (!false) = true from rfl), awake22, Option.bind_some]
  rw [h, Option.bind_some, if_neg (by simp), new_eq, rnew_eq, Option.bind_some]
  cases newE most window lock with
  | true =>
    simp only [if_true, optC_none_eq, Option.bind_some, awake22]
    rfl
  | false =>
    simp only [Bool.false_eq_true, if_false, optC_some_eq, Option.bind_some]
    rw [if_neg (by decide)]
    exact locks_loop most (lim window) (lim lock) ops hm hoo ops 0 fuel [] rfl (by unfold fuel; omega) invL_nil
def nd : List Str → Bool
  | [] => true
  | x :: r => !r.contains x && nd r
end Go.KW.S
