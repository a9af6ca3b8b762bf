/- Own work: a part of the proofs of this seat. -/
import Derived.Test.YteifnoehmfjogaaDoorKwPlain
import Derived.Test.YteifnoehmfjogaaDoorKwMapP
import Derived.Test.YteifnoehmfjogaaDoorKwLS
import Derived.KernelRfl
import Derived.Lib.IndexMore
import Derived.Lib.CountLaws
import Derived.Laws.RangeString
import Derived.Laws.RangeAny
set_option linter.unusedVariables false
set_option linter.unusedSimpArgs false
namespace Go.KW.S
open Go Go.KW
/-! ### words -/
def isW (c : Int) : Bool := (((decide (c ≥ 65) && decide (c ≤ 90)) || (decide (c ≥ 97) && decide (c ≤ 122))) || (decide (c ≥ 48) && decide (c ≤ 57))) || c == 45 || c == 95 || c == 46 || c == 58
def word (s : Str) : Bool := s.all (fun u => isW u.toNat) && (decide (1 ≤ s.length) && decide (s.length ≤ 64))

theorem fold_Word_1_eq (c : Int) : fold_Word_1 c = some (isW c) := by
  simp only [fold_Word_1, fold_letter, fold_upper, fold_digit, isW, Option.bind_some]
  cases (decide (c ≥ 65) && decide (c ≤ 90)) <;> cases (decide (c ≥ 97) && decide (c ≤ 122)) <;> simp
theorem fold_made_eq (s : Str) (hs : fits s) : fold_made__Word_1 s = some (word s) := by
  have key : ∀ (r : Str) (i n : Nat), s.drop i = r → i ≤ s.length → r.length < n →
      fold_made__Word_1_L1 n s (s.length : Int) (i : Int) = some (r.all (fun u => isW u.toNat) && (decide (1 ≤ s.length) && decide (s.length ≤ 64))) := by
    intro r
    induction r with
    | nil =>
      intro i n hd hi hn
      obtain ⟨n, rfl⟩ : ∃ k, n = k + 1 := ⟨n - 1, by simp at hn; omega⟩
      have := drop_nil hd
      simp only [fold_made__Word_1_L1, show ¬ ((i : Int) < s.length) by omega, decide_false, Bool.false_eq_true, if_false, List.all_nil, Bool.true_and, Option.some.injEq]
      rw [Bool.eq_iff_iff]; cases s <;> simp <;> omega
    | cons u r ih =>
      intro i n hd hi hn
      obtain ⟨n, rfl⟩ : ∃ k, n = k + 1 := ⟨n - 1, by simp at hn; omega⟩
      obtain ⟨h1, h2, h3⟩ := drop_more hd
      have hlt := drop_lt hd
      have := hs; unfold fits at this
      simp only [fold_made__Word_1_L1, show ((i : Int) < s.length) by omega, decide_true, if_true, inb_n, h1, chk_true, byteAt_some h2, fold_Word_1_eq, Option.bind_some, w64n (show i < 9223372036854775807 by omega), List.all_cons]
      cases isW u.toNat with
      | false => simp
      | true => simpa using ih (i + 1) n h3 (by omega) (by simp at hn; omega)
  exact key s 0 fuel rfl (by omega) (fuel_pos hs)
theorem fold_Word_eq (s : Str) (hs : fits s) : fold_Word s = some (word s) := by
  simp [fold_Word, fold_made_eq s hs]

/-- an instant by Rule 6 -/
def lim (t : Int) : Int := gmin (gmax t 0) 1099511627776
theorem lim_range (t : Int) : 0 ≤ lim t ∧ lim t ≤ 1099511627776 := by unfold lim gmin gmax; split <;> split <;> omega
theorem lim_val (t : Int) : lim t = if t < 0 then 0 else if t > 1099511627776 then 1099511627776 else t := by unfold lim gmin gmax; repeat' split <;> omega
theorem lim_lim (a : Int) : lim (lim a) = lim a := by have := lim_range a; rw [lim_val (lim a)]; split <;> (try split) <;> omega
theorem word_len {s : Str} (h : word s = true) : 1 ≤ s.length ∧ s.length ≤ 64 := by
  simp only [word, Bool.and_eq_true, decide_eq_true_eq] at h; exact h.2
theorem word_fits {s : Str} (h : word s = true) : fits s := by have := word_len h; unfold fits; omega
theorem put_set {K V : Type} [DecidableEq K] {key : K} {r x : V} : ∀ {l : List (K × V)} {k : Nat}, l[k]? = some (key, r) → (∀ q ∈ l.take k, q.1 ≠ key) → mputL key x l = l.set k (key, x)
  | [], k, h, _ => by simp at h
  | p :: l, 0, h, _ => by
    simp at h; subst h
    simp [mputL]
  | p :: l, k + 1, h, ht => by
    have hp := ht p (by simp)
    unfold mputL
    rw [if_neg (fun e => hp e.symm), put_set (k := k) (by simpa using h) (fun q hq => ht q (by simp [hq]))]
    rfl
theorem put_none {K V : Type} [DecidableEq K] {key : K} {x : V} : ∀ {l : List (K × V)}, mfind key l = none → mputL key x l = l ++ [(key, x)]
  | [], _ => rfl
  | p :: l, h => by
    unfold mfind at h
    split at h
    · cases h
    · rename_i e
      unfold mputL
      rw [if_neg e, put_none h]; rfl
/-! ### locks -/
theorem opt_cases {α : Type} (o : Option α) : o = none ∨ ∃ r, o = some r := by cases o <;> simp
def addS (a b : Int) : Int := lim (lim a + lim b)
theorem clock_Add_eq (a b : Int) : clock_Add a b = some (addS a b) := by
  unfold clock_Add addS
  have h1 := lim_range a
  have h2 := lim_range b
  have e : ∀ t, clock_limited t = some (lim t) := fun t => rfl
  rw [e, e, Option.bind_some, Option.bind_some, w64 (by omega) (by omega), e, Option.bind_some]
theorem addS_0 (a : Int) : addS a 0 = lim a := by
  unfold addS
  have : lim 0 = 0 := rfl
  rw [this, Int.add_zero, lim_lim]
abbrev LL := List (Str × secret_record)
def one (w now t : Int) : Bool := decide (t ≤ now) && decide (now - t < w)
def cnt (w : Int) (ts : List Int) (now : Int) : Int := ((ts.filter (one w now)).length : Int)
structure goodR (r : secret_record) : Prop where
  len : r.times.length ≤ 256
  rng : ∀ t ∈ r.times, 0 ≤ t ∧ t ≤ 1099511627776
def zr : secret_record := ⟨[], 0⟩
theorem goodR_z : goodR zr := ⟨by simp [zr], fun t h => by simp [zr] at h⟩
theorem cnt_nil (w now : Int) : cnt w [] now = 0 := rfl
theorem count_eq (k : secret_Locks) (r : secret_record) (now : Int) (hr : ∀ t ∈ r.times, 0 ≤ t ∧ t ≤ 1099511627776) (hl : r.times.length ≤ 1000) (hn : 0 ≤ now ∧ now ≤ 1099511627776) : secret_Locks_count k r now = some (cnt k.window r.times now) := by
  have key : ∀ (s : List Int) (i n : Nat) (c : Nat), r.times.drop i = s → s.length < n → c ≤ i → secret_Locks_count_L1 n k now (c : Int) r.times (r.times.length : Int) (i : Int) = some ((c : Int) + cnt k.window s now) := by
    intro s
    induction s with
    | nil =>
      intro i n c hd hn hc
      obtain ⟨n, rfl⟩ : ∃ k, n = k + 1 := ⟨n - 1, by simp at hn; omega⟩
      have := drop_nil hd
      unfold secret_Locks_count_L1
      rw [if_neg (by simp; omega), cnt_nil, Int.add_zero]
    | cons x s ih =>
      intro i n c hd hn' hc
      obtain ⟨n, rfl⟩ : ∃ k, n = k + 1 := ⟨n - 1, by simp at hn'; omega⟩
      obtain ⟨h1, h2, h3⟩ := drop_more hd
      have hlt := drop_lt hd
      have hx := hr x (List.mem_of_getElem? h2)
      have hc1 : one k.window now x = (decide (x ≤ now) && decide (now - x < k.window)) := rfl
      unfold secret_Locks_count_L1
      rw [if_pos (by simp; omega), idx_n, h2, Option.bind_some, w64 (x := now - x) (by omega) (by omega), ← hc1]
      unfold secret_Locks_count_B2
      rw [w64n (show i < 9223372036854775807 by omega)]
      by_cases ho : one k.window now x = true
      · rw [if_pos ho]
        have e : IntKind.i64.wrap ((c : Int) + 1) = ((c + 1 : Nat) : Int) := w64n (by omega)
        rw [e, ih (i + 1) n (c + 1) h3 (by simp at hn'; omega) (by omega)]
        unfold cnt
        rw [List.filter_cons, if_pos ho]
        simp only [List.length_cons]
        congr 1; omega
      · rw [if_neg ho, ih (i + 1) n c h3 (by simp at hn'; omega) (by omega)]
        unfold cnt
        rw [List.filter_cons, if_neg ho]
  unfold secret_Locks_count
  have := key r.times 0 fuel 0 rfl (by unfold fuel; omega) (by omega)
  rw [show ((0 : Nat) : Int) = 0 from rfl, Int.zero_add] at this
  exact this
/-- the times behind a failure -/
def tsF (ts : List Int) (t : Int) : List Int := if (ts ++ [t]).length > 256 then (ts ++ [t]).drop 1 else ts ++ [t]
def failR (most w lock : Int) (r : secret_record) (t : Int) : secret_record :=
  if t < r.until_ ∨ cnt w (tsF r.times t) t ≥ most then ⟨tsF r.times t, gmax r.until_ (addS t lock)⟩ else ⟨tsF r.times t, r.until_⟩
def failL (most w lock : Int) (l : LL) (u : Str) (now : Int) : LL :=
  if word u = false then l else if mfind u l = none ∧ 256 ≤ l.length then l else mputL u (failR most w lock ((mfind u l).getD zr) (lim now)) l
theorem tsF_len {ts : List Int} {t : Int} (h : ts.length ≤ 256) : (tsF ts t).length ≤ 256 := by
  unfold tsF
  split
  · simp; omega
  · simp at *; omega
theorem tsF_mem {ts : List Int} {t x : Int} (h : x ∈ tsF ts t) : x ∈ ts ∨ x = t := by
  unfold tsF at h
  split at h
  · have := List.mem_of_mem_drop h
    simpa using this
  · simpa using h
structure InvL (l : LL) : Prop where
  nd : nodupK l
  len : l.length ≤ 256
  good : ∀ p ∈ l, goodR p.2
theorem goodR_fail {r : secret_record} (h : goodR r) (most w lock now : Int) : goodR (failR most w lock r (lim now)) := by
  have hl := tsF_len (t := lim now) h.len
  have hm : ∀ t ∈ tsF r.times (lim now), 0 ≤ t ∧ t ≤ 1099511627776 := fun t ht => by
    rcases tsF_mem ht with ht | rfl
    · exact h.rng t ht
    · exact lim_range now
  unfold failR
  split
  · exact ⟨hl, hm⟩
  · exact ⟨hl, hm⟩
theorem InvL.get {l : LL} (h : InvL l) (u : Str) : goodR ((mfind u l).getD zr) := by
  rcases opt_cases (mfind u l) with e | ⟨r, e⟩
  · rw [e]; exact goodR_z
  · rw [e]; exact h.good _ (mfind_mem e)
theorem invL_fail {l : LL} (h : InvL l) (most w lock : Int) (u : Str) (now : Int) : InvL (failL most w lock l u now) := by
  unfold failL
  split
  · exact h
  split
  · exact h
  · rename_i h1
    refine ⟨nodupK_put h.nd, ?_, fun p hp => ?_⟩
    · rw [len_put]
      have := h.len
      split
      · exact this
      · rename_i hs
        rcases opt_cases (mfind u l) with e | ⟨r, e⟩
        · have : ¬ 256 ≤ l.length := fun h' => h1 ⟨e, h'⟩
          omega
        · rw [e] at hs; simp at hs
    · rcases mem_put hp with rfl | hp
      · exact goodR_fail (h.get u) _ _ _ _
      · exact h.good p hp
theorem put_put {k : Str} {x y : secret_record} : ∀ l : LL, mputL k x (mputL k y l) = mputL k x l
  | [] => by simp [mputL]
  | p :: l => by
    by_cases e : k = p.1
    · simp only [mputL, if_pos e, if_true]
    · simp only [mputL, if_neg e, put_put l]
theorem mgetP_some (l : LL) (u : Str) : mgetP (some l) u = mfind u l := rfl
theorem mput_some (l : LL) (u : Str) (x : secret_record) : mput (some l) u x = some (mputL u x l) := rfl
theorem mlen_some {K V : Type} (l : List (K × V)) : mlen (some l) = (l.length : Int) := by unfold mlen; simp
theorem fail_two (most w lock : Int) (l : LL) (u : Str) (ts : List Int) (unt t : Int) (b : Bool) (hts : ts.length ≤ 256) (hr : ∀ x ∈ ts, 0 ≤ x ∧ x ≤ 1099511627776) (ht : 0 ≤ t ∧ t ≤ 1099511627776) :
    secret_Locks_Fail_B2 ⟨most, w, lock, some (mputL u ⟨ts, unt⟩ l)⟩ t b u = some ⟨most, w, lock, some (mputL u (if b = true ∨ cnt w ts t ≥ most then ⟨ts, gmax unt (addS t lock)⟩ else ⟨ts, unt⟩) l)⟩ := by
  have hg : mgetP (some (mputL u ⟨ts, unt⟩ l)) u = some ⟨ts, unt⟩ := by rw [mgetP_some, mfind_put_self]
  have hc : secret_Locks_count ⟨most, w, lock, some (mputL u ⟨ts, unt⟩ l)⟩ ⟨ts, unt⟩ t = some (cnt w ts t) := count_eq _ _ _ hr (by simp only; omega) ht
  have e : (if b = true then some true else some (decide (cnt w ts t ≥ most))) = some (b || decide (cnt w ts t ≥ most)) := by cases b <;> rfl
  unfold secret_Locks_Fail_B2
  simp only [hg, Option.bind_some, hc, clock_Add_eq, mput_some, put_put]
  rw [e, Option.bind_some]
  by_cases h : b = true ∨ cnt w ts t ≥ most
  · rw [if_pos (by simpa using h), if_pos h]
  · rw [if_neg (by simpa using h), if_neg h]
theorem fail_one (most w lock : Int) (l : LL) (u : Str) (r : secret_record) (hr : goodR r) (now : Int) (h : mfind u l = some r) :
    secret_Locks_Fail_B1 ⟨most, w, lock, some l⟩ now u = some ⟨most, w, lock, some (mputL u (failR most w lock r (lim now)) l)⟩ := by
  have hl := hr.len
  have hlim := lim_range now
  have hts := tsF_len (t := lim now) hl
  have hm : ∀ t ∈ tsF r.times (lim now), 0 ≤ t ∧ t ≤ 1099511627776 := fun t ht => by
    rcases tsF_mem ht with ht | rfl
    · exact hr.rng t ht
    · exact lim_range now
  have two := fail_two most w lock l u (tsF r.times (lim now)) r.until_ (lim now) (decide (lim now < r.until_)) hts hm hlim
  have e : (if decide (lim now < r.until_) = true ∨ cnt w (tsF r.times (lim now)) (lim now) ≥ most then (⟨tsF r.times (lim now), gmax r.until_ (addS (lim now) lock)⟩ : secret_record) else ⟨tsF r.times (lim now), r.until_⟩) = failR most w lock r (lim now) := by
    unfold failR; simp only [decide_eq_true_eq]
  rw [e] at two
  unfold secret_Locks_Fail_B1
  rw [clock_Add_eq, addS_0, Option.bind_some, mgetP_some, h, Option.bind_some, chk_t (by simp [fitL]; omega)]
  simp only [mput_some]
  unfold tsF at two
  by_cases hc : (r.times ++ [lim now]).length > 256
  · rw [if_pos hc] at two
    have hin : inc 1 ((r.times ++ [lim now]).length : Nat) (r.times ++ [lim now]).length = true := by
      have := inc_n (i := 1) (j := (r.times ++ [lim now]).length) (n := (r.times ++ [lim now]).length)
      rw [show (((1 : Nat) : Int)) = 1 from rfl] at this
      rw [this]; simp
    have hcut : cut (r.times ++ [lim now]) 1 ((r.times ++ [lim now]).length : Nat) = (r.times ++ [lim now]).drop 1 := by
      have := cut_n (r.times ++ [lim now]) 1 (r.times ++ [lim now]).length
      rw [show (((1 : Nat) : Int)) = 1 from rfl] at this
      rw [this, List.take_of_length_le]
      rw [List.length_drop]; omega
    rw [if_pos (by rw [decide_eq_true_eq]; omega), chk_t hin, hcut]
    exact two
  · rw [if_neg hc] at two
    rw [if_neg (by rw [decide_eq_true_eq]; omega)]
    exact two
theorem fail_eq (most w lock : Int) {l : LL} (h : InvL l) (u : Str) (now : Int) (hu : fits u) : secret_Locks_Fail ⟨most, w, lock, some l⟩ u now = some ⟨most, w, lock, some (failL most w lock l u now)⟩ := by
  have hl := h.len
  unfold secret_Locks_Fail failL
  have hm : (some l : GMap Str secret_record).isNone = false := rfl
  have hs : (some l : GMap Str secret_record).isSome = true := rfl
  simp only [hm, Bool.false_eq_true, if_false, fold_Word_eq u hu, Option.bind_some, mgetP_some, mlen_some, mput_some, put_put]
  cases hw : word u with
  | false => simp
  | true =>
    rw [Bool.not_true, if_neg (show ¬ (false = true) by simp), if_neg (show ¬ (true = false) by simp)]
    rcases opt_cases (mfind u l) with e | ⟨r, e⟩
    · rw [e]
      by_cases h6 : 256 ≤ l.length
      · rw [if_pos (show (none : Option secret_record).isNone = true from rfl), if_pos (by rw [decide_eq_true_eq]; omega), if_pos ⟨rfl, h6⟩]
      · rw [if_pos (show (none : Option secret_record).isNone = true from rfl), if_neg (by rw [decide_eq_true_eq]; omega), if_neg (fun h => h6 h.2), chk_t hs]
        have := fail_one most w lock (mputL u zr l) u zr goodR_z now mfind_put_self
        rw [put_put] at this
        exact this
    · rw [e, if_neg (by simp), if_neg (show ¬ (some r = none ∧ 256 ≤ l.length) by simp)]
      exact fail_one most w lock l u r (by have := h.get u; rw [e] at this; exact this) now e
def lockedS (l : LL) (u : Str) (now : Int) : Bool := match mfind u l with | none => false | some r => decide (lim now < r.until_)
def failsS (w : Int) (l : LL) (u : Str) (now : Int) : Int := match mfind u l with | none => 0 | some r => cnt w r.times (lim now)
theorem locked_eq (most w lock : Int) (l : LL) (u : Str) (now : Int) : secret_Locks_Locked ⟨most, w, lock, some l⟩ u now = some (lockedS l u now) := by
  unfold secret_Locks_Locked lockedS
  simp only [mgetP_some, clock_Add_eq, addS_0, Option.bind_some]
  rcases opt_cases (mfind u l) with e | ⟨r, e⟩ <;> rw [e] <;> rfl
theorem failures_eq (most w lock : Int) {l : LL} (h : InvL l) (u : Str) (now : Int) : secret_Locks_Failures ⟨most, w, lock, some l⟩ u now = some (failsS w l u now) := by
  unfold secret_Locks_Failures failsS
  simp only [mgetP_some, clock_Add_eq, addS_0, Option.bind_some]
  rcases opt_cases (mfind u l) with e | ⟨r, e⟩
  · rw [e]; rfl
  · rw [e]
    have hr := h.good _ (mfind_mem e)
    have hl := hr.len
    simp only [Option.isNone_some, Bool.false_eq_true, if_false, Option.bind_some]
    rw [count_eq _ _ _ hr.rng (by omega) (lim_range now), Option.bind_some]
theorem clear_eq (most w lock : Int) (l : LL) (u : Str) : secret_Locks_Clear ⟨most, w, lock, some l⟩ u = some ⟨most, w, lock, some (mdelL u l)⟩ := rfl
theorem invL_del {l : LL} (h : InvL l) (u : Str) : InvL (mdelL u l) := by
  refine ⟨nodupK_del h.nd, ?_, fun p hp => h.good p (mem_del hp)⟩
  have := len_del (k := u) h.nd
  have := h.len
  omega
/-- the locks that a call makes -/
def newE (most window lock : Int) : Bool := ((decide (most < 1) || decide (most > 256)) || decide (lim window < 1)) || decide (lim lock < 1)
theorem new_eq (most window lock : Int) : secret_NewLocks most window lock = some (if newE most window lock then (none, 2) else (some ⟨most, lim window, lim lock, some []⟩, 0)) := by
  unfold secret_NewLocks newE
  rw [clock_Add_eq, clock_Add_eq, addS_0, addS_0, Option.bind_some, Option.bind_some]
  split <;> rfl
/-! ### the specification's locks -/
abbrev toRec (p : Str × secret_record) : ref22_record := ⟨p.1, p.2.times, p.2.until_⟩
structure AtL (l : LL) (u : Str) (k : Nat) (r : secret_record) : Prop where
  get : l[k]? = some (u, r)
  pre : ∀ q ∈ l.take k, q.1 ≠ u
theorem AtL.lt {l : LL} {u : Str} {k : Nat} {r : secret_record} (h : AtL l u k r) : k < l.length := (List.getElem?_eq_some_iff.1 h.get).1
theorem AtL.put {l : LL} {u : Str} {k : Nat} {r x : secret_record} (h : AtL l u k r) : setAt (l.map toRec) (k : Int) (toRec (u, x)) = (mputL u x l).map toRec := by
  rw [put_set h.get h.pre, List.map_set]
  simp [setAt]
theorem AtL.next {l : LL} {u : Str} {k : Nat} {r : secret_record} (h : AtL l u k r) (x : secret_record) : AtL (mputL u x l) u k x := by
  have hlt := h.lt
  rw [put_set h.get h.pre]
  refine ⟨by rw [List.getElem?_set_self hlt], fun q hq => ?_⟩
  rw [List.take_set_of_le (Nat.le_refl _)] at hq
  exact h.pre q hq
theorem awake22 : law22_awake = some true := by kernel_rfl
theorem optC_some_eq {A B : Type} (a : A) (k0 : Option B) (k1 : A → Option B) : optC (some a) k0 k1 = k1 a := rfl
/-! ### many users, many failures -/
def nms : List Str := (List.range 300).map fun i : Nat => (law22_name (i : Int)).getD []
theorem nms_len : nms.length = 300 := by simp [nms]
theorem nms_some : ((List.range 300).all fun i : Nat => (law22_name (i : Int)).isSome) = true := by kernel_rfl
theorem nms_word : (nms.all fun s => word s) = true := by kernel_rfl
def nd : List Str → Bool
  | [] => true
  | x :: r => !r.contains x && nd r
theorem nd_ok : ∀ {l : List Str}, nd l = true → l.Nodup
  | [], _ => List.nodup_nil
  | x :: r, h => by
    unfold nd at h
    simp only [Bool.and_eq_true, Bool.not_eq_true'] at h
    rw [List.nodup_cons]
    exact ⟨(fun hx => by rw [List.contains_iff_mem.2 hx] at h; cases h.1), nd_ok h.2⟩
theorem nms_nd : nms.Nodup := nd_ok (by kernel_rfl)
theorem name_eq {i : Nat} (h : i < 300) : law22_name (i : Int) = some (nms[i]'(by rw [nms_len]; exact h)) := by
  have h1 := List.all_eq_true.1 nms_some i (List.mem_range.2 h)
  obtain ⟨s, hs⟩ := Option.isSome_iff_exists.1 h1
  have : nms[i]'(by rw [nms_len]; exact h) = s := by simp [nms, hs]
  rw [this, hs]
theorem name_word {s : Str} (h : s ∈ nms) : word s = true := List.all_eq_true.1 nms_word s h
theorem not_taken {k i : Nat} (h : i < 300) (hk : k ≤ i) : nms[i]'(by rw [nms_len]; exact h) ∉ nms.take k := by
  intro hm
  obtain ⟨j, hj⟩ := List.mem_iff_getElem?.1 hm
  rw [List.getElem?_take] at hj
  split at hj
  · obtain ⟨hjl, hj⟩ := List.getElem?_eq_some_iff.1 hj
    have := (List.getElem_inj nms_nd).1 hj
    omega
  · cases hj
def lstA (k : Nat) : LL := (nms.take k).map fun s => (s, ⟨[1], 0⟩)
theorem lstA_len {k : Nat} (h : k ≤ 300) : (lstA k).length = k := by unfold lstA; rw [List.length_map, List.length_take, nms_len]; omega
theorem lstA_keys (k : Nat) : (lstA k).map Prod.fst = nms.take k := by
  unfold lstA
  rw [List.map_map]
  have : (Prod.fst ∘ fun s : Str => (s, (⟨[1], 0⟩ : secret_record))) = id := rfl
  rw [this, List.map_id]
theorem lstA_nd (k : Nat) : nodupK (lstA k) := by
  unfold nodupK
  rw [lstA_keys]; exact (List.take_sublist k nms).nodup nms_nd
theorem invL_lst {k : Nat} (h : k ≤ 256) : InvL (lstA k) := by
  refine ⟨lstA_nd k, by rw [lstA_len (by omega)]; exact h, fun p hp => ?_⟩
  obtain ⟨s, hs, rfl⟩ := List.mem_map.1 hp
  exact ⟨by simp, fun t ht => by simp at ht; subst ht; decide⟩
theorem find_lst_none {k i : Nat} (h : i < 300) (hk : k ≤ i) : mfind (nms[i]'(by rw [nms_len]; exact h)) (lstA k) = none := by
  rw [mfind_none]
  intro p hp e
  obtain ⟨s, hs, rfl⟩ := List.mem_map.1 hp
  simp only at e
  exact not_taken h hk (e ▸ hs)
theorem find_lst_some {k i : Nat} (h : i < 300) (hk : i < k) : mfind (nms[i]'(by rw [nms_len]; exact h)) (lstA k) = some ⟨[1], 0⟩ := by
  have hl : i < nms.length := by rw [nms_len]; exact h
  refine mfind_of_mem (lstA_nd k) (List.mem_map.2 ⟨nms[i], ?_, rfl⟩)
  exact List.mem_iff_getElem?.2 ⟨i, by rw [List.getElem?_take, if_pos hk, List.getElem?_eq_getElem hl]⟩
theorem lstA_succ {k : Nat} (h : k < 300) : lstA (k + 1) = lstA k ++ [(nms[k]'(by rw [nms_len]; exact h), ⟨[1], 0⟩)] := by
  have hl : k < nms.length := by rw [nms_len]; exact h
  unfold lstA
  rw [List.take_add_one, List.getElem?_eq_getElem hl, List.map_append]; rfl
abbrev MT : Int := 1099511627776
theorem fail_lst {i : Nat} (h : i < 300) : failL 256 MT 10 (lstA (min i 256)) (nms[i]'(by rw [nms_len]; exact h)) 1 = lstA (min (i + 1) 256) := by
  have hmem : nms[i]'(by rw [nms_len]; exact h) ∈ nms := List.getElem_mem _
  have hf := find_lst_none h (show min i 256 ≤ i by omega)
  unfold failL
  rw [name_word hmem, if_neg (by simp), hf, lstA_len (by omega)]
  by_cases hc : 256 ≤ i
  · rw [if_pos ⟨rfl, by omega⟩, show min (i + 1) 256 = min i 256 by omega]
  · have hr : failR 256 MT 10 ((none : Option secret_record).getD zr) (lim 1) = ⟨[1], 0⟩ := by decide
    rw [if_neg (fun h => by omega), hr, put_none hf, show min (i + 1) 256 = i + 1 by omega, show min i 256 = i by omega, lstA_succ h]
theorem fits_name {s : Str} (h : s ∈ nms) : fits s := word_fits (name_word h)
/-- the first user's failures, all at the same instant -/
def stF (base : LL) (u : Str) (i : Nat) : LL := if i = 0 then base else base ++ [(u, ⟨List.replicate (min i 256) 3, if 256 ≤ i then 13 else 0⟩)]
theorem cnt_rep (w : Int) (hw : 0 < w) (n : Nat) (t : Int) : cnt w (List.replicate n t) t = (n : Int) := by
  unfold cnt
  rw [List.filter_eq_self.2, List.length_replicate]
  intro x hx
  rw [(List.mem_replicate.1 hx).2]
  unfold one
  simp; omega
theorem tsF_rep (n : Nat) (hn : n ≤ 256) (t : Int) : tsF (List.replicate n t) t = List.replicate (min (n + 1) 256) t := by
  have e : List.replicate n t ++ [t] = List.replicate (n + 1) t := by rw [List.replicate_succ']
  unfold tsF
  rw [e, List.length_replicate]
  by_cases h : n + 1 > 256
  · rw [if_pos h, List.drop_replicate]; congr 1; omega
  · rw [if_neg h]; congr 1; omega
theorem failR_rep (i : Nat) : failR 256 MT 10 ⟨List.replicate (min i 256) 3, if 256 ≤ i then 13 else 0⟩ (lim 3) = ⟨List.replicate (min (i + 1) 256) 3, if 256 ≤ i + 1 then 13 else 0⟩ := by
  have e3 : lim 3 = 3 := by decide
  have ea : addS 3 10 = 13 := by decide
  unfold failR
  rw [e3, ea]
  simp only
  rw [tsF_rep _ (by omega), show min (min i 256 + 1) 256 = min (i + 1) 256 by omega, cnt_rep MT (by decide)]
  by_cases h1 : 256 ≤ i
  · rw [if_pos (.inl (by rw [if_pos h1]; decide)), if_pos h1, if_pos (by omega)]; rfl
  · rw [if_neg h1]
    by_cases h2 : 256 ≤ i + 1
    · rw [if_pos (.inr (by omega)), if_pos h2]; rfl
    · rw [if_neg (by omega), if_neg h2]
theorem fail_stF {base : LL} {u : Str} (hw : word u = true) (hb : mfind u base = none) (hl : base.length < 256) (i : Nat) : failL 256 MT 10 (stF base u i) u 3 = stF base u (i + 1) := by
  unfold failL
  rw [hw, if_neg (by simp)]
  unfold stF
  rw [if_neg (show ¬ (i + 1 = 0) by omega)]
  by_cases h0 : i = 0
  · subst h0
    rw [if_pos rfl, hb, if_neg (fun h => by omega), put_none hb]
    have hr : failR 256 MT 10 ((none : Option secret_record).getD zr) (lim 3) = ⟨[3], 0⟩ := by decide
    rw [hr]; rfl
  · rw [if_neg h0]
    have hp : ∀ x : secret_record, mfind u (base ++ [(u, x)]) = some x := fun x => by rw [← put_none hb, mfind_put_self]
    rw [hp, if_neg (fun h => by cases h.1), Option.getD_some, failR_rep, ← put_none hb, put_put, put_none hb]
theorem many_four (r0 r1 : Int → Int → secret_Locks → Int → Option Bool) (F : Nat) (hF : F ≤ 300) {base : LL} (hI : InvL base) (hb : mfind (nms[0]'(by rw [nms_len]; omega)) base = none) (hl : base.length < 256) :
    ∀ (k i n : Nat), F - i = k → k < n → i ≤ F → law22_SecretMany_L4 r0 r1 n (F : Int) ⟨256, MT, 10, some (stF base (nms[0]'(by rw [nms_len]; omega)) i)⟩ (i : Int) = some true := by
  have h00 : 0 < nms.length := by rw [nms_len]; omega
  have hmem : nms[0] ∈ nms := List.getElem_mem h00
  have hn0 := name_eq (i := 0) (by omega)
  rw [show ((0 : Nat) : Int) = 0 from rfl] at hn0
  have hw := name_word hmem
  have hfits := fits_name hmem
  have inv : ∀ i, InvL (stF base nms[0] i) := fun i => by
    induction i with
    | zero => exact hI
    | succ i ih => rw [← fail_stF hw hb hl]; exact invL_fail ih _ _ _ _ _
  intro k
  induction k with
  | zero =>
    intro i n hk hn hi
    obtain ⟨n, rfl⟩ : ∃ k, n = k + 1 := ⟨n - 1, by omega⟩
    have e : i = F := by omega
    subst e
    have hg : gmin (i : Int) 256 = ((min i 256 : Nat) : Int) := by unfold gmin; split <;> omega
    have e3 : lim 3 = 3 := by decide
    have hfs : failsS MT (stF base nms[0] i) nms[0] 3 = ((min i 256 : Nat) : Int) ∧ lockedS (stF base nms[0] i) nms[0] 3 = decide ((i : Int) ≥ 256) := by
      unfold failsS lockedS stF
      by_cases h0 : i = 0
      · subst h0
        rw [if_pos rfl, hb]
        exact ⟨rfl, rfl⟩
      · have hp : ∀ x : secret_record, mfind nms[0] (base ++ [(nms[0], x)]) = some x := fun x => by rw [← put_none hb, mfind_put_self]
        rw [if_neg h0, hp, e3]
        refine ⟨cnt_rep MT (by decide) _ _, ?_⟩
        simp only
        by_cases h6 : 256 ≤ i
        · rw [if_pos h6, decide_eq_true (show (i : Int) ≥ 256 by omega)]; rfl
        · rw [if_neg h6, decide_eq_false (show ¬ (i : Int) ≥ 256 by omega)]; rfl
    unfold law22_SecretMany_L4
    rw [if_neg (by simp), hn0, Option.bind_some, failures_eq 256 MT 10 (inv i), Option.bind_some, hfs.1, hg, if_pos (by simp), Option.bind_some, locked_eq, Option.bind_some, hfs.2, Option.bind_some, if_pos (by simp), awake22]
    rfl
  | succ k ih =>
    intro i n hk hn hi
    obtain ⟨n, rfl⟩ : ∃ k, n = k + 1 := ⟨n - 1, by omega⟩
    unfold law22_SecretMany_L4
    rw [if_pos (by simp; omega), hn0, Option.bind_some, fail_eq 256 MT 10 (inv i) _ _ hfits, Option.bind_some, w64n (show i < 9223372036854775807 by omega), fail_stF hw hb hl]
    exact ih (i + 1) n (by omega) (by omega) (by omega)
theorem many_two (r0 : Int → Int → secret_Locks → Int → Option Bool) (U F : Nat) (hU : U ≤ 300) (hF : F ≤ 300) : ∀ (k i n : Nat), U - i = k → k < n → i ≤ U → law22_SecretMany_L2 r0 n (U : Int) (F : Int) ⟨256, MT, 10, some (lstA (min U 256))⟩ (i : Int) = some true := by
  have hI := invL_lst (k := min U 256) (by omega)
  intro k
  induction k with
  | zero =>
    intro i n hk hn hi
    obtain ⟨n, rfl⟩ : ∃ k, n = k + 1 := ⟨n - 1, by omega⟩
    have e : i = U := by omega
    subst e
    have h00 : 0 < nms.length := by rw [nms_len]; omega
    have hn0 := name_eq (i := 0) (by omega)
    rw [show ((0 : Nat) : Int) = 0 from rfl] at hn0
    have hb : mfind nms[0] (mdelL nms[0] (lstA (min i 256))) = none := by rw [mfind_del hI.nd, if_pos rfl]
    have hlen : (mdelL nms[0] (lstA (min i 256))).length < 256 := by
      have h1 := len_del (k := nms[0]) hI.nd
      have h2 := lstA_len (k := min i 256) (by omega)
      by_cases h0 : 0 < min i 256
      · have := find_lst_some (k := min i 256) (i := 0) (by omega) h0
        rw [this] at h1
        simp only [Option.isSome_some, if_true] at h1
        omega
      · omega
    have hFf : F < fuel := by unfold fuel; omega
    unfold law22_SecretMany_L2
    rw [if_neg (by simp), hn0, Option.bind_some, clear_eq, Option.bind_some]
    exact many_four r0 (law22_SecretMany_L2 r0 n) F hF (invL_del hI _) hb hlen F 0 fuel (by omega) hFf (by omega)
  | succ k ih =>
    intro i n hk hn hi
    obtain ⟨n, rfl⟩ : ∃ k, n = k + 1 := ⟨n - 1, by omega⟩
    have hlt : i < nms.length := by rw [nms_len]; omega
    have step : ∀ want : Int, want = (if 256 ≤ i then 0 else 1) → law22_SecretMany_B3 r0 (law22_SecretMany_L2 r0 n) (U : Int) (F : Int) ⟨256, MT, 10, some (lstA (min U 256))⟩ (i : Int) want = some true := by
      intro want hw
      have hfs : failsS MT (lstA (min U 256)) nms[i] 2 = want := by
        unfold failsS
        rw [hw]
        by_cases h6 : 256 ≤ i
        · rw [if_pos h6, find_lst_none (by omega) (show min U 256 ≤ i by omega)]
        · rw [if_neg h6, find_lst_some (by omega) (show i < min U 256 by omega)]
          decide
      unfold law22_SecretMany_B3
      rw [name_eq (by omega), Option.bind_some, failures_eq 256 MT 10 hI, Option.bind_some, hfs, if_neg (by simp), w64n (show i < 9223372036854775807 by omega)]
      exact ih (i + 1) n (by omega) (by omega) (by omega)
    unfold law22_SecretMany_L2
    rw [if_pos (by simp; omega)]
    by_cases h6 : 256 ≤ i
    · rw [if_pos (by simp; omega)]
      exact step 0 (by rw [if_pos h6])
    · rw [if_neg (by simp; omega)]
      exact step 1 (by rw [if_neg h6])
theorem many_one (U F : Nat) (hU : U ≤ 300) (hF : F ≤ 300) : ∀ (k i n : Nat), U - i = k → k < n → i ≤ U → law22_SecretMany_L1 n (U : Int) (F : Int) ⟨256, MT, 10, some (lstA (min i 256))⟩ (i : Int) = some true := by
  intro k
  induction k with
  | zero =>
    intro i n hk hn hi
    obtain ⟨n, rfl⟩ : ∃ k, n = k + 1 := ⟨n - 1, by omega⟩
    have e : i = U := by omega
    subst e
    have hUf : i < fuel := by unfold fuel; omega
    unfold law22_SecretMany_L1
    rw [if_neg (by simp)]
    exact many_two (law22_SecretMany_L1 n) i F hU hF i 0 fuel (by omega) hUf (by omega)
  | succ k ih =>
    intro i n hk hn hi
    obtain ⟨n, rfl⟩ : ∃ k, n = k + 1 := ⟨n - 1, by omega⟩
    have hlt : i < nms.length := by rw [nms_len]; omega
    have hmem : nms[i] ∈ nms := List.getElem_mem hlt
    unfold law22_SecretMany_L1
    rw [if_pos (by simp; omega), name_eq (by omega), Option.bind_some, fail_eq 256 MT 10 (invL_lst (by omega)) _ _ (fits_name hmem), Option.bind_some, w64n (show i < 9223372036854775807 by omega), fail_lst (by omega)]
    exact ih (i + 1) n (by omega) (by omega) (by omega)
theorem many_true (u f : Int) : law22_SecretMany u f = some true := by
  unfold law22_SecretMany
  obtain ⟨U, hU, e⟩ : ∃ U : Nat, U ≤ 300 ∧ gmax 0 (gmin u 300) = (U : Int) := by
    refine ⟨(gmax 0 (gmin u 300)).toNat, ?_, ?_⟩ <;> (unfold gmax gmin; split <;> split <;> omega)
  obtain ⟨F, hF, e2⟩ : ∃ F : Nat, F ≤ 300 ∧ gmax 0 (gmin f 300) = (F : Int) := by
    refine ⟨(gmax 0 (gmin f 300)).toNat, ?_, ?_⟩ <;> (unfold gmax gmin; split <;> split <;> omega)
  have hE : newE 256 1099511627776 10 = false := by decide
  have e1 : lim 1099511627776 = MT := by decide
  have e10 : lim 10 = 10 := by decide
  have hUf : U < fuel := by unfold fuel; omega
  rw [e, e2, new_eq, hE, if_neg (by simp), Option.bind_some, optC_some_eq, if_neg (by decide), e1, e10]
  exact many_one U F hU hF U 0 fuel (by omega) hUf (by omega)
end Go.KW.S
