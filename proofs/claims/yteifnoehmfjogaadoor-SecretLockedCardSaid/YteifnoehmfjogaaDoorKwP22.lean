/- Own work: a part of the proofs of this seat. -/
import Derived.Test.YteifnoehmfjogaaDoorKwPlain
import Derived.Test.YteifnoehmfjogaaDoorKwMapP
import Derived.Test.YteifnoehmfjogaaDoorKwLS
import Derived.KernelRfl
import Derived.Lib.IndexMore
import Derived.Lib.CountLaws
import Derived.Laws.RangeString
import Derived.Laws.RangeAny
set_option linter.unusedVariables false
set_option linter.unusedSimpArgs false
namespace Go.KW.S
open Go Go.KW
/-! ### words -/
def isW (c : Int) : Bool := (((decide (c ≥ 65) && decide (c ≤ 90)) || (decide (c ≥ 97) && decide (c ≤ 122))) || (decide (c ≥ 48) && decide (c ≤ 57))) || c == 45 || c == 95 || c == 46 || c == 58
def word (s : Str) : Bool := s.all (fun u => isW u.toNat) && (decide (1 ≤ s.length) && decide (s.length ≤ 64))

theorem fold_Word_1_eq (c : Int) : fold_Word_1 c = some (isW c) := by
  simp only [fold_Word_1, fold_letter, fold_upper, fold_digit, isW, Option.bind_some]
  cases (decide (c ≥ 65) && decide (c ≤ 90)) <;> cases (decide (c ≥ 97) && decide (c ≤ 122)) <;> simp
theorem fold_made_eq (s : Str) (hs : fits s) : fold_made__Word_1 s = some (word s) := by
  have key : ∀ (r : Str) (i n : Nat), s.drop i = r → i ≤ s.length → r.length < n →
      fold_made__Word_1_L1 n s (s.length : Int) (i : Int) = some (r.all (fun u => isW u.toNat) && (decide (1 ≤ s.length) && decide (s.length ≤ 64))) := by
    intro r
    induction r with
    | nil =>
      intro i n hd hi hn
      obtain ⟨n, rfl⟩ : ∃ k, n = k + 1 := ⟨n - 1, by simp at hn; omega⟩
      have := drop_nil hd
      simp only [fold_made__Word_1_L1, show ¬ ((i : Int) < s.length) by omega, decide_false, Bool.false_eq_true, if_false, List.all_nil, Bool.true_and, Option.some.injEq]
      rw [Bool.eq_iff_iff]; cases s <;> simp <;> omega
    | cons u r ih =>
      intro i n hd hi hn
      obtain ⟨n, rfl⟩ : ∃ k, n = k + 1 := ⟨n - 1, by simp at hn; omega⟩
      obtain ⟨h1, h2, h3⟩ := drop_more hd
      have hlt := drop_lt hd
      have := hs; unfold fits at this
      simp only [fold_made__Word_1_L1, show ((i : Int) < s.length) by omega, decide_true, if_true, inb_n, h1, chk_true, byteAt_some h2, fold_Word_1_eq, Option.bind_some, w64n (show i < 9223372036854775807 by omega), List.all_cons]
      cases isW u.toNat with
      | false => simp
      | true => simpa using ih (i + 1) n h3 (by omega) (by simp at hn; omega)
  exact key s 0 fuel rfl (by omega) (fuel_pos hs)
theorem fold_Word_eq (s : Str) (hs : fits s) : fold_Word s = some (word s) := by
  simp [fold_Word, fold_made_eq s hs]

/-- an instant by Rule 6 -/
def lim (t : Int) : Int := gmin (gmax t 0) 1099511627776
theorem lim_range (t : Int) : 0 ≤ lim t ∧ lim t ≤ 1099511627776 := by unfold lim gmin gmax; split <;> split <;> omega
theorem lim_val (t : Int) : lim t = if t < 0 then 0 else if t > 1099511627776 then 1099511627776 else t := by unfold lim gmin gmax; repeat' split <;> omega
theorem lim_lim (a : Int) : lim (lim a) = lim a := by have := lim_range a; rw [lim_val (lim a)]; split <;> (try split) <;> omega
theorem put_set {K V : Type} [DecidableEq K] {key : K} {r x : V} : ∀ {l : List (K × V)} {k : Nat}, l[k]? = some (key, r) → (∀ q ∈ l.take k, q.1 ≠ key) → mputL key x l = l.set k (key, x)
  | [], k, h, _ => by simp at h
  | p :: l, 0, h, _ => by
    simp at h; subst h
    simp [mputL]
  | p :: l, k + 1, h, ht => by
    have hp := ht p (by simp)
    unfold mputL
    rw [if_neg (fun e => hp e.symm), put_set (k := k) (by simpa using h) (fun q hq => ht q (by simp [hq]))]
    rfl
theorem put_none {K V : Type} [DecidableEq K] {key : K} {x : V} : ∀ {l : List (K × V)}, mfind key l = none → mputL key x l = l ++ [(key, x)]
  | [], _ => rfl
  | p :: l, h => by
    unfold mfind at h
    split at h
    · cases h
    · rename_i e
      unfold mputL
      rw [if_neg e, put_none h]; rfl
/-! ### locks -/
theorem opt_cases {α : Type} (o : Option α) : o = none ∨ ∃ r, o = some r := by cases o <;> simp
def addS (a b : Int) : Int := lim (lim a + lim b)
theorem clock_Add_eq (a b : Int) : clock_Add a b = some (addS a b) := by
  unfold clock_Add addS
  have h1 := lim_range a
  have h2 := lim_range b
  have e : ∀ t, clock_limited t = some (lim t) := fun t => rfl
  rw [e, e, Option.bind_some, Option.bind_some, w64 (by omega) (by omega), e, Option.bind_some]
theorem addS_0 (a : Int) : addS a 0 = lim a := by
  unfold addS
  have : lim 0 = 0 := rfl
  rw [this, Int.add_zero, lim_lim]
abbrev LL := List (Str × secret_record)
def one (w now t : Int) : Bool := decide (t ≤ now) && decide (now - t < w)
def cnt (w : Int) (ts : List Int) (now : Int) : Int := ((ts.filter (one w now)).length : Int)
structure goodR (r : secret_record) : Prop where
  len : r.times.length ≤ 256
  rng : ∀ t ∈ r.times, 0 ≤ t ∧ t ≤ 1099511627776
def zr : secret_record := ⟨[], 0⟩
theorem goodR_z : goodR zr := ⟨by simp [zr], fun t h => by simp [zr] at h⟩
theorem cnt_nil (w now : Int) : cnt w [] now = 0 := rfl
theorem count_eq (k : secret_Locks) (r : secret_record) (now : Int) (hr : ∀ t ∈ r.times, 0 ≤ t ∧ t ≤ 1099511627776) (hl : r.times.length ≤ 1000) (hn : 0 ≤ now ∧ now ≤ 1099511627776) : secret_Locks_count k r now = some (cnt k.window r.times now) := by
  have key : ∀ (s : List Int) (i n : Nat) (c : Nat), r.times.drop i = s → s.length < n → c ≤ i → secret_Locks_count_L1 n k now (c : Int) r.times (r.times.length : Int) (i : Int) = some ((c : Int) + cnt k.window s now) := by
    intro s
    induction s with
    | nil =>
      intro i n c hd hn hc
      obtain ⟨n, rfl⟩ : ∃ k, n = k + 1 := ⟨n - 1, by simp at hn; omega⟩
      have := drop_nil hd
      unfold secret_Locks_count_L1
      rw [if_neg (by simp; omega), cnt_nil, Int.add_zero]
    | cons x s ih =>
      intro i n c hd hn' hc
      obtain ⟨n, rfl⟩ : ∃ k, n = k + 1 := ⟨n - 1, by simp at hn'; omega⟩
      obtain ⟨h1, h2, h3⟩ := drop_more hd
      have hlt := drop_lt hd
      have hx := hr x (List.mem_of_getElem? h2)
      have hc1 : one k.window now x = (decide (x ≤ now) && decide (now - x < k.window)) := rfl
      unfold secret_Locks_count_L1
      rw [if_pos (by simp; omega), idx_n, h2, Option.bind_some, w64 (x := now - x) (by omega) (by omega), ← hc1]
      unfold secret_Locks_count_B2
      rw [w64n (show i < 9223372036854775807 by omega)]
      by_cases ho : one k.window now x = true
      · rw [if_pos ho]
        have e : IntKind.i64.wrap ((c : Int) + 1) = ((c + 1 : Nat) : Int) := w64n (by omega)
        rw [e, ih (i + 1) n (c + 1) h3 (by simp at hn'; omega) (by omega)]
        unfold cnt
        rw [List.filter_cons, if_pos ho]
        simp only [List.length_cons]
        congr 1; omega
      · rw [if_neg ho, ih (i + 1) n c h3 (by simp at hn'; omega) (by omega)]
        unfold cnt
        rw [List.filter_cons, if_neg ho]
  unfold secret_Locks_count
  have := key r.times 0 fuel 0 rfl (by unfold fuel; omega) (by omega)
  rw [show ((0 : Nat) : Int) = 0 from rfl, Int.zero_add] at this
  exact this
/-- the times behind a failure -/
def tsF (ts : List Int) (t : Int) : List Int := if (ts ++ [t]).length > 256 then (ts ++ [t]).drop 1 else ts ++ [t]
def failR (most w lock : Int) (r : secret_record) (t : Int) : secret_record :=
  if t < r.until_ ∨ cnt w (tsF r.times t) t ≥ most then ⟨tsF r.times t, gmax r.until_ (addS t lock)⟩ else ⟨tsF r.times t, r.until_⟩
def failL (most w lock : Int) (l : LL) (u : Str) (now : Int) : LL :=
  if word u = false then l else if mfind u l = none ∧ 256 ≤ l.length then l else mputL u (failR most w lock ((mfind u l).getD zr) (lim now)) l
theorem tsF_len {ts : List Int} {t : Int} (h : ts.length ≤ 256) : (tsF ts t).length ≤ 256 := by
  unfold tsF
  split
  · simp; omega
  · simp at *; omega
theorem tsF_mem {ts : List Int} {t x : Int} (h : x ∈ tsF ts t) : x ∈ ts ∨ x = t := by
  unfold tsF at h
  split at h
  · have := List.mem_of_mem_drop h
    simpa using this
  · simpa using h
structure InvL (l : LL) : Prop where
  nd : nodupK l
  len : l.length ≤ 256
  good : ∀ p ∈ l, goodR p.2
theorem invL_nil : InvL [] := ⟨nodupK_nil, by simp, fun p h => by cases h⟩
theorem InvL.get {l : LL} (h : InvL l) (u : Str) : goodR ((mfind u l).getD zr) := by
  rcases opt_cases (mfind u l) with e | ⟨r, e⟩
  · rw [e]; exact goodR_z
  · rw [e]; exact h.good _ (mfind_mem e)
theorem put_put {k : Str} {x y : secret_record} : ∀ l : LL, mputL k x (mputL k y l) = mputL k x l
  | [] => by simp [mputL]
  | p :: l => by
    by_cases e : k = p.1
    · simp only [mputL, if_pos e, if_true]
    · simp only [mputL, if_neg e, put_put l]
theorem mgetP_some (l : LL) (u : Str) : mgetP (some l) u = mfind u l := rfl
theorem mput_some (l : LL) (u : Str) (x : secret_record) : mput (some l) u x = some (mputL u x l) := rfl
theorem mlen_some {K V : Type} (l : List (K × V)) : mlen (some l) = (l.length : Int) := by unfold mlen; simp
theorem fail_two (most w lock : Int) (l : LL) (u : Str) (ts : List Int) (unt t : Int) (b : Bool) (hts : ts.length ≤ 256) (hr : ∀ x ∈ ts, 0 ≤ x ∧ x ≤ 1099511627776) (ht : 0 ≤ t ∧ t ≤ 1099511627776) :
    secret_Locks_Fail_B2 ⟨most, w, lock, some (mputL u ⟨ts, unt⟩ l)⟩ t b u = some ⟨most, w, lock, some (mputL u (if b = true ∨ cnt w ts t ≥ most then ⟨ts, gmax unt (addS t lock)⟩ else ⟨ts, unt⟩) l)⟩ := by
  have hg : mgetP (some (mputL u ⟨ts, unt⟩ l)) u = some ⟨ts, unt⟩ := by rw [mgetP_some, mfind_put_self]
  have hc : secret_Locks_count ⟨most, w, lock, some (mputL u ⟨ts, unt⟩ l)⟩ ⟨ts, unt⟩ t = some (cnt w ts t) := count_eq _ _ _ hr (by simp only; omega) ht
  have e : (if b = true then some true else some (decide (cnt w ts t ≥ most))) = some (b || decide (cnt w ts t ≥ most)) := by cases b <;> rfl
  unfold secret_Locks_Fail_B2
  simp only [hg, Option.bind_some, hc, clock_Add_eq, mput_some, put_put]
  rw [e, Option.bind_some]
  by_cases h : b = true ∨ cnt w ts t ≥ most
  · rw [if_pos (by simpa using h), if_pos h]
  · rw [if_neg (by simpa using h), if_neg h]
theorem fail_one (most w lock : Int) (l : LL) (u : Str) (r : secret_record) (hr : goodR r) (now : Int) (h : mfind u l = some r) :
    secret_Locks_Fail_B1 ⟨most, w, lock, some l⟩ now u = some ⟨most, w, lock, some (mputL u (failR most w lock r (lim now)) l)⟩ := by
  have hl := hr.len
  have hlim := lim_range now
  have hts := tsF_len (t := lim now) hl
  have hm : ∀ t ∈ tsF r.times (lim now), 0 ≤ t ∧ t ≤ 1099511627776 := fun t ht => by
    rcases tsF_mem ht with ht | rfl
    · exact hr.rng t ht
    · exact lim_range now
  have two := fail_two most w lock l u (tsF r.times (lim now)) r.until_ (lim now) (decide (lim now < r.until_)) hts hm hlim
  have e : (if decide (lim now < r.until_) = true ∨ cnt w (tsF r.times (lim now)) (lim now) ≥ most then (⟨tsF r.times (lim now), gmax r.until_ (addS (lim now) lock)⟩ : secret_record) else ⟨tsF r.times (lim now), r.until_⟩) = failR most w lock r (lim now) := by
    unfold failR; simp only [decide_eq_true_eq]
  rw [e] at two
  unfold secret_Locks_Fail_B1
  rw [clock_Add_eq, addS_0, Option.bind_some, mgetP_some, h, Option.bind_some, chk_t (by simp [fitL]; omega)]
  simp only [mput_some]
  unfold tsF at two
  by_cases hc : (r.times ++ [lim now]).length > 256
  · rw [if_pos hc] at two
    have hin : inc 1 ((r.times ++ [lim now]).length : Nat) (r.times ++ [lim now]).length = true := by
      have := inc_n (i := 1) (j := (r.times ++ [lim now]).length) (n := (r.times ++ [lim now]).length)
      rw [show (((1 : Nat) : Int)) = 1 from rfl] at this
      rw [this]; simp
    have hcut : cut (r.times ++ [lim now]) 1 ((r.times ++ [lim now]).length : Nat) = (r.times ++ [lim now]).drop 1 := by
      have := cut_n (r.times ++ [lim now]) 1 (r.times ++ [lim now]).length
      rw [show (((1 : Nat) : Int)) = 1 from rfl] at this
      rw [this, List.take_of_length_le]
      rw [List.length_drop]; omega
    rw [if_pos (by rw [decide_eq_true_eq]; omega), chk_t hin, hcut]
    exact two
  · rw [if_neg hc] at two
    rw [if_neg (by rw [decide_eq_true_eq]; omega)]
    exact two
theorem fail_eq (most w lock : Int) {l : LL} (h : InvL l) (u : Str) (now : Int) (hu : fits u) : secret_Locks_Fail ⟨most, w, lock, some l⟩ u now = some ⟨most, w, lock, some (failL most w lock l u now)⟩ := by
  have hl := h.len
  unfold secret_Locks_Fail failL
  have hm : (some l : GMap Str secret_record).isNone = false := rfl
  have hs : (some l : GMap Str secret_record).isSome = true := rfl
  simp only [hm, Bool.false_eq_true, if_false, fold_Word_eq u hu, Option.bind_some, mgetP_some, mlen_some, mput_some, put_put]
  cases hw : word u with
  | false => simp
  | true =>
    rw [Bool.not_true, if_neg (show ¬ (false = true) by simp), if_neg (show ¬ (true = false) by simp)]
    rcases opt_cases (mfind u l) with e | ⟨r, e⟩
    · rw [e]
      by_cases h6 : 256 ≤ l.length
      · rw [if_pos (show (none : Option secret_record).isNone = true from rfl), if_pos (by rw [decide_eq_true_eq]; omega), if_pos ⟨rfl, h6⟩]
      · rw [if_pos (show (none : Option secret_record).isNone = true from rfl), if_neg (by rw [decide_eq_true_eq]; omega), if_neg (fun h => h6 h.2), chk_t hs]
        have := fail_one most w lock (mputL u zr l) u zr goodR_z now mfind_put_self
        rw [put_put] at this
        exact this
    · rw [e, if_neg (by simp), if_neg (show ¬ (some r = none ∧ 256 ≤ l.length) by simp)]
      exact fail_one most w lock l u r (by have := h.get u; rw [e] at this; exact this) now e
def lockedS (l : LL) (u : Str) (now : Int) : Bool := match mfind u l with | none => false | some r => decide (lim now < r.until_)
def failsS (w : Int) (l : LL) (u : Str) (now : Int) : Int := match mfind u l with | none => 0 | some r => cnt w r.times (lim now)
theorem locked_eq (most w lock : Int) (l : LL) (u : Str) (now : Int) : secret_Locks_Locked ⟨most, w, lock, some l⟩ u now = some (lockedS l u now) := by
  unfold secret_Locks_Locked lockedS
  simp only [mgetP_some, clock_Add_eq, addS_0, Option.bind_some]
  rcases opt_cases (mfind u l) with e | ⟨r, e⟩ <;> rw [e] <;> rfl
theorem failures_eq (most w lock : Int) {l : LL} (h : InvL l) (u : Str) (now : Int) : secret_Locks_Failures ⟨most, w, lock, some l⟩ u now = some (failsS w l u now) := by
  unfold secret_Locks_Failures failsS
  simp only [mgetP_some, clock_Add_eq, addS_0, Option.bind_some]
  rcases opt_cases (mfind u l) with e | ⟨r, e⟩
  · rw [e]; rfl
  · rw [e]
    have hr := h.good _ (mfind_mem e)
    have hl := hr.len
    simp only [Option.isNone_some, Bool.false_eq_true, if_false, Option.bind_some]
    rw [count_eq _ _ _ hr.rng (by omega) (lim_range now), Option.bind_some]
theorem clear_eq (most w lock : Int) (l : LL) (u : Str) : secret_Locks_Clear ⟨most, w, lock, some l⟩ u = some ⟨most, w, lock, some (mdelL u l)⟩ := rfl
/-- the locks that a call makes -/
def newE (most window lock : Int) : Bool := ((decide (most < 1) || decide (most > 256)) || decide (lim window < 1)) || decide (lim lock < 1)
theorem new_eq (most window lock : Int) : secret_NewLocks most window lock = some (if newE most window lock then (none, 2) else (some ⟨most, lim window, lim lock, some []⟩, 0)) := by
  unfold secret_NewLocks newE
  rw [clock_Add_eq, clock_Add_eq, addS_0, addS_0, Option.bind_some, Option.bind_some]
  split <;> rfl
/-! ### the specification's locks -/
abbrev toRec (p : Str × secret_record) : ref22_record := ⟨p.1, p.2.times, p.2.until_⟩
structure AtL (l : LL) (u : Str) (k : Nat) (r : secret_record) : Prop where
  get : l[k]? = some (u, r)
  pre : ∀ q ∈ l.take k, q.1 ≠ u
theorem AtL.lt {l : LL} {u : Str} {k : Nat} {r : secret_record} (h : AtL l u k r) : k < l.length := (List.getElem?_eq_some_iff.1 h.get).1
theorem AtL.put {l : LL} {u : Str} {k : Nat} {r x : secret_record} (h : AtL l u k r) : setAt (l.map toRec) (k : Int) (toRec (u, x)) = (mputL u x l).map toRec := by
  rw [put_set h.get h.pre, List.map_set]
  simp [setAt]
theorem AtL.next {l : LL} {u : Str} {k : Nat} {r : secret_record} (h : AtL l u k r) (x : secret_record) : AtL (mputL u x l) u k x := by
  have hlt := h.lt
  rw [put_set h.get h.pre]
  refine ⟨by rw [List.getElem?_set_self hlt], fun q hq => ?_⟩
  rw [List.take_set_of_le (Nat.le_refl _)] at hq
  exact h.pre q hq
theorem awake22 : law22_awake = some true := by kernel_rfl
theorem optC_some_eq {A B : Type} (a : A) (k0 : Option B) (k1 : A → Option B) : optC (some a) k0 k1 = k1 a := rfl
def nd : List Str → Bool
  | [] => true
  | x :: r => !r.contains x && nd r
theorem cnt_rep (w : Int) (hw : 0 < w) (n : Nat) (t : Int) : cnt w (List.replicate n t) t = (n : Int) := by
  unfold cnt
  rw [List.filter_eq_self.2, List.length_replicate]
  intro x hx
  rw [(List.mem_replicate.1 hx).2]
  unfold one
  simp; omega
theorem tsF_rep (n : Nat) (hn : n ≤ 256) (t : Int) : tsF (List.replicate n t) t = List.replicate (min (n + 1) 256) t := by
  have e : List.replicate n t ++ [t] = List.replicate (n + 1) t := by rw [List.replicate_succ']
  unfold tsF
  rw [e, List.length_replicate]
  by_cases h : n + 1 > 256
  · rw [if_pos h, List.drop_replicate]; congr 1; omega
  · rw [if_neg h]; congr 1; omega
/-! ### locked users -/
abbrev ann : Str := [97, 110, 110]
abbrev bob : Str := [98, 111, 98]
def sing (r : secret_record) : LL := [(ann, r)]
theorem invL_sing {r : secret_record} (h : goodR r) : InvL (sing r) := ⟨by simp [nodupK, sing], by simp [sing], fun p hp => by simp [sing] at hp; subst hp; exact h⟩
theorem find_sing (r : secret_record) : mfind ann (sing r) = some r := rfl
theorem find_bob (r : secret_record) : mfind bob (sing r) = none := rfl
theorem word_ann : word ann = true := by decide
theorem fits_ann : fits ann := by simp [fits]
theorem fail_sing (most w lock : Int) (r : secret_record) (now : Int) : failL most w lock (sing r) ann now = sing (failR most w lock r (lim now)) := by
  unfold failL
  rw [word_ann, if_neg (by simp), find_sing, if_neg (fun h => by cases h.1)]; rfl
theorem lim_id {t : Int} (h0 : 0 ≤ t) (h1 : t ≤ 1099511627776) : lim t = t := by rw [lim_val, if_neg (by omega), if_neg (by omega)]
def stA (most i : Nat) (now lock : Int) : LL := if i = 0 then [] else sing ⟨List.replicate i now, if i = most then now + lock else 0⟩
theorem rep_good (i : Nat) (hi : i ≤ 256) (now u : Int) (h0 : 0 ≤ now) (h1 : now ≤ 1099511627776) : goodR ⟨List.replicate i now, u⟩ := ⟨by simpa using hi, fun t ht => by rw [(List.mem_replicate.1 ht).2]; exact ⟨h0, h1⟩⟩
theorem invL_stA {most i : Nat} {now lock : Int} (hi : i ≤ 256) (h0 : 0 ≤ now) (h1 : now ≤ 1099511627776) : InvL (stA most i now lock) := by
  unfold stA
  split
  · exact invL_nil
  · exact invL_sing (rep_good i hi _ _ h0 h1)
theorem fail_stA {most i : Nat} {now lock w : Int} (hi : i < most) (hm : most ≤ 40) (h0 : 0 ≤ now) (h1 : now ≤ 1073741824) (hl0 : 1 ≤ lock) (hl1 : lock ≤ 1073741824) (hw : 1 ≤ w) : failL (most : Int) w lock (stA most i now lock) ann now = stA most (i + 1) now lock := by
  have hln : lim now = now := lim_id h0 (by omega)
  have hadd : addS now lock = now + lock := by unfold addS; rw [hln, lim_id (t := lock) (by omega) (by omega), lim_id (by omega) (by omega)]
  have e1 : failL (most : Int) w lock (stA most i now lock) ann now = sing (failR (most : Int) w lock ⟨List.replicate i now, 0⟩ now) := by
    unfold stA
    by_cases hz : i = 0
    · subst hz
      rw [if_pos rfl]
      unfold failL
      rw [word_ann, if_neg (by simp), if_neg (fun h => absurd h.2 (by simp)), hln]; rfl
    · rw [if_neg hz, if_neg (show ¬ i = most by omega), fail_sing, hln]
  rw [e1]
  have hts : tsF (List.replicate i now) now = List.replicate (i + 1) now := by rw [tsF_rep i (by omega), show min (i + 1) 256 = i + 1 by omega]
  have hc : cnt w (List.replicate (i + 1) now) now = ((i + 1 : Nat) : Int) := cnt_rep w (by omega) _ _
  unfold failR stA
  simp only [hts, hc, hadd]
  rw [if_neg (show ¬ (i + 1 = 0) by omega)]
  by_cases hq : i + 1 = most
  · rw [if_pos (.inr (by omega)), if_pos hq]
    have : gmax 0 (now + lock) = now + lock := by unfold gmax; split <;> omega
    rw [this]
  · rw [if_neg (fun h => by rcases h with h | h <;> omega), if_neg hq]
theorem locked_sing (r : secret_record) (now : Int) : lockedS (sing r) ann now = decide (lim now < r.until_) := by unfold lockedS; rw [find_sing]
theorem locked_loop (most : Nat) (w lock now later : Int) (hm1 : 1 ≤ most) (hm : most ≤ 40) (h0 : 0 ≤ now) (h1 : now ≤ 1073741824) (hl0 : 1 ≤ lock) (hl1 : lock ≤ 1073741824) (hw : 1 ≤ w) (hr0 : 0 ≤ later) (hr1 : later < lock) :
    ∀ (k i n : Nat), most - i = k → k < n → i ≤ most → law22_SecretLocked_L1 n (most : Int) lock now later ⟨(most : Int), w, lock, some (stA most i now lock)⟩ (i : Int) = some true := by
  have hln : lim now = now := lim_id h0 (by omega)
  intro k
  induction k with
  | zero =>
    intro i n hk hn hi
    obtain ⟨n, rfl⟩ : ∃ k, n = k + 1 := ⟨n - 1, by omega⟩
    have e : i = most := by omega
    subst e
    have hst : stA i i now lock = sing ⟨List.replicate i now, now + lock⟩ := by unfold stA; rw [if_neg (by omega), if_pos rfl]
    have hg := rep_good i (by omega) now (now + lock) h0 (by omega)
    have hI := invL_sing hg
    have w1 : IntKind.i64.wrap (now + lock) = now + lock := w64 (by omega) (by omega)
    have w2 : IntKind.i64.wrap (now + lock - 1) = now + lock - 1 := w64 (by omega) (by omega)
    have w3 : IntKind.i64.wrap (now + later) = now + later := w64 (by omega) (by omega)
    have w4 : IntKind.i64.wrap (now + later + lock) = now + later + lock := w64 (by omega) (by omega)
    have w5 : IntKind.i64.wrap (now + later + lock - 1) = now + later + lock - 1 := w64 (by omega) (by omega)
    have l1 : lim (now + lock) = now + lock := lim_id (by omega) (by omega)
    have l2 : lim (now + lock - 1) = now + lock - 1 := lim_id (by omega) (by omega)
    have l3 : lim (now + later) = now + later := lim_id (by omega) (by omega)
    have l4 : lim (now + later + lock) = now + later + lock := lim_id (by omega) (by omega)
    have l5 : lim (now + later + lock - 1) = now + later + lock - 1 := lim_id (by omega) (by omega)
    have hadd : addS (now + later) lock = now + later + lock := by unfold addS; rw [l3, lim_id (t := lock) (by omega) (by omega), l4]
    have hfr : failR (i : Int) w lock ⟨List.replicate i now, now + lock⟩ (now + later) = ⟨tsF (List.replicate i now) (now + later), now + later + lock⟩ := by
      unfold failR
      simp only
      rw [if_pos (.inl (by omega)), hadd]
      have : gmax (now + lock) (now + later + lock) = now + later + lock := by unfold gmax; split <;> omega
      rw [this]
    have hb : lockedS (sing ⟨List.replicate i now, now + lock⟩) bob now = false := by unfold lockedS; rw [find_bob]
    have hfb : failsS w (sing ⟨List.replicate i now, now + lock⟩) bob now = 0 := by unfold failsS; rw [find_bob]
    have hdb : ∀ r : secret_record, mdelL bob (sing r) = sing r := fun r => del_none (find_bob r)
    have hda : ∀ r : secret_record, mdelL ann (sing r) = [] := fun r => by simp [mdelL, sing]
    have hln0 : lockedS [] ann now = false := rfl
    have hfn0 : failsS w [] ann now = 0 := rfl
    have t1 : decide (now < now + lock) = true := decide_eq_true (by omega)
    have t2 : decide (now + lock - 1 < now + lock) = true := decide_eq_true (by omega)
    have t3 : decide (now + lock < now + lock) = false := decide_eq_false (by omega)
    have t4 : decide (now + later + lock - 1 < now + later + lock) = true := decide_eq_true (by omega)
    have t5 : decide (now + later + lock < now + later + lock) = false := decide_eq_false (by omega)
    have t6 : decide (now < now + later + lock) = true := decide_eq_true (by omega)
    unfold law22_SecretLocked_L1
    rw [if_neg (by simp), hst]
    simp only [locked_eq, failures_eq _ _ _ hI, fail_eq _ _ _ hI ann _ fits_ann, clear_eq, w1, w2, w3, w4, w5, locked_sing, hln, l1, l2, hb, hfb, t1, t2, t3, Option.bind_some, fail_sing, l3, hfr, l4, l5, t4, t5, hdb, t6, hda, hln0, failures_eq _ _ _ invL_nil, hfn0, awake22]
    rfl
  | succ k ih =>
    intro i n hk hn hi
    obtain ⟨n, rfl⟩ : ∃ k, n = k + 1 := ⟨n - 1, by omega⟩
    have hI := invL_stA (most := most) (i := i) (now := now) (lock := lock) (by omega) h0 (by omega)
    have hl : lockedS (stA most i now lock) ann now = false := by
      unfold stA
      by_cases hz : i = 0
      · rw [if_pos hz]; rfl
      · rw [if_neg hz, if_neg (show ¬ i = most by omega), locked_sing, hln]
        exact decide_eq_false (by simp only; omega)
    unfold law22_SecretLocked_L1
    rw [if_pos (by simp; omega), locked_eq, Option.bind_some, hl, if_neg (by simp), fail_eq _ _ _ hI ann _ fits_ann, Option.bind_some, fail_stA (by omega) hm h0 h1 hl0 hl1 hw, w64n (show i < 9223372036854775807 by omega)]
    exact ih (i + 1) n (by omega) (by omega) (by omega)
theorem locked_true (most window lock now later : Int) : law22_SecretLocked most window lock now later = some true := by
  unfold law22_SecretLocked
  by_cases hc : (((((((((decide (most < 1)) || (decide (most > 40))) || (decide (now < 0))) || (decide (now > 1073741824))) || (decide (lock < 1))) || (decide (lock > 1073741824))) || (decide (window < 1))) || (decide (later < 0))) || (decide (later ≥ lock))) = true
  · rw [if_pos hc, awake22, Option.bind_some]
  · rw [if_neg hc]
    simp only [Bool.or_eq_true, decide_eq_true_eq, not_or] at hc
    obtain ⟨⟨⟨⟨⟨⟨⟨⟨c1, c2⟩, c3⟩, c4⟩, c5⟩, c6⟩, c7⟩, c8⟩, c9⟩ := hc
    have hll : lim lock = lock := lim_id (by omega) (by omega)
    have hlw : 1 ≤ lim window := by rw [lim_val]; split; · omega
                                    split <;> omega
    have hE : newE most window lock = false := by
      unfold newE
      rw [hll, decide_eq_false c1, decide_eq_false (show ¬ most > 256 by omega), decide_eq_false (show ¬ lim window < 1 by omega), decide_eq_false (show ¬ lock < 1 by omega)]; rfl
    obtain ⟨M, rfl⟩ : ∃ M : Nat, most = (M : Int) := ⟨most.toNat, by omega⟩
    have hF : M < fuel := by unfold fuel; omega
    rw [new_eq, hE, if_neg (by simp), Option.bind_some, optC_some_eq, if_neg (show ¬ (((0 : Int) != 0) || false) = true by decide), hll]
    exact locked_loop M (lim window) lock now later (by omega) (by omega) (by omega) (by omega) (by omega) (by omega) hlw (by omega) (by omega) M 0 fuel (by omega) hF (by omega)
def cls (u : UInt8) : Nat := if 97 ≤ u.toNat ∧ u.toNat ≤ 122 then 0 else if 65 ≤ u.toNat ∧ u.toNat ≤ 90 then 1 else if 48 ≤ u.toNat ∧ u.toNat ≤ 57 then 2 else 3
def exC (p : Str) (k : Nat) : Bool := p.any fun u => cls u == k
def b01 (b : Bool) : Int := if b then 1 else 0
def hv (p : Str) : List Int := [b01 (exC p 0), b01 (exC p 1), b01 (exC p 2), b01 (exC p 3)]
end Go.KW.S
