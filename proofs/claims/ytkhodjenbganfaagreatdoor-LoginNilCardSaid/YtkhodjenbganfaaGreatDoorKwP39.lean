/- Own work: a part of the proofs of this seat. -/
import Derived.Test.YtkhodjenbganfaaGreatDoorKwP39a
set_option linter.unusedVariables false
set_option linter.unusedSimpArgs false
namespace Go.KW.S
open Go Go.KW
abbrev ann : Str := [97, 110, 110]
abbrev AT := List (Str × login_attempt)
abbrev UL := List (Str × login_credentials)
abbrev stM (m : Int) (L : LL) (U : UL) (C : List (Str × Int)) (A : AT) : login_Logins := ⟨some ⟨m, 100, 50, some L⟩, some U, some C, some A⟩
def exS (a : login_attempt) (now : Int) : Bool := decide (lim now - lim a.begun ≥ 300)
def live (now : Int) (A : AT) : AT := A.filter fun p => !exS p.2 now
def findE (A : AT) (id : Str) (now : Int) : Int := match mfind id A with | none => 6 | some a => if exS a now then 13 else 0
def Fs : List (List Int) := [[], [1], [2], [1, 2], [2, 1]]
def prf (ps : List api_Proof) : Prop := ps.map (·.Factor) ∈ Fs
theorem w11 : IntKind.i64.wrap 2 = 2 := by decide
theorem any_map (ps : List api_Proof) (f : Int) : (ps.any fun p => p.Factor == f) = (ps.map (·.Factor)).any (· == f) := by rw [List.any_map]; rfl
theorem prf_add {ps : List api_Proof} (h : prf ps) {f t : Int} (hf : f = 1 ∨ f = 2) (hn : (ps.any fun p => p.Factor == f) = false) : prf (ps ++ [⟨f, t⟩]) := by
  unfold prf Fs at *
  rw [any_map] at hn
  simp only [List.map_append, List.map_cons, List.map_nil]
  simp only [List.mem_cons, List.not_mem_nil, or_false] at h
  rcases hf with rfl | rfl <;> rcases h with h | h | h | h | h <;> rw [h] at hn ⊢ <;> simp at hn ⊢
structure Inv (L : LL) (U : UL) (A : AT) : Prop where
  lk : InvL L
  und : nodupK U
  ug : ∀ p ∈ U, fits p.2.verifier.Salt ∧ fits p.2.code
  ua : (mfind ann U).isSome = true
  nd : nodupK A
  len : A.length ≤ 256
  at_ : ∀ p ∈ A, prf p.2.proofs ∧ fits p.2.user
/-- how the counters may grow -/
def CG (C C' : List (Str × Int)) (u : Str) : Prop := C' = C ∨ ∃ n, C' = mputL u n C ∧ ∀ d, mfind u C = some d → d < n
/-- what presenting a factor may do -/
def PR (m : Int) (L : LL) (U : UL) (C : List (Str × Int)) (A : AT) (id : Str) (f now e : Int) (s' : login_Logins) : Prop :=
  (findE A id now ≠ 0 ∧ e = findE A id now ∧ s' = stM m L U C A) ∨ (findE A id now = 0 ∧ ∃ a, mfind id A = some a ∧ exS a now = false ∧
    (((e = 12 ∨ e = 22) ∧ s' = stM m L U C A) ∨ (e = 11 ∧ s' = stM m (failL m 100 50 L a.user now) U C A) ∨
      (e = 0 ∧ (a.proofs.any fun p => p.Factor == f) = false ∧ ∃ L' C' t, ((L' = L ∨ L' = mdelL a.user L) ∧ CG C C' a.user) ∧ s' = stM m L' U C' (mputL id ⟨a.user, a.begun, a.proofs ++ [⟨f, t⟩]⟩ A))))
theorem inv_put {L : LL} {U : UL} {A : AT} (h : Inv L U A) {L' : LL} (hL : InvL L') {id : Str} {a : login_attempt} (hk : (mfind id A).isSome = true) (hg : prf a.proofs ∧ fits a.user) : Inv L' U (mputL id a A) := by
  refine ⟨hL, h.und, h.ug, h.ua, nodupK_put h.nd, ?_, fun p hp => ?_⟩
  · rw [len_put, if_pos hk]; exact h.len
  · rcases mem_put hp with rfl | hp
    · exact hg
    · exact h.at_ p hp
/-- what presenting leaves behind -/
theorem PR.good {m : Int} {L : LL} {U : UL} {C : List (Str × Int)} {A : AT} (h : Inv L U A) {id : Str} {f now e : Int} {s' : login_Logins} (hf : f = 1 ∨ f = 2) (p : PR m L U C A id f now e s') :
    ∃ L' C' A', s' = stM m L' U C' A' ∧ Inv L' U A' := by
  rcases p with ⟨_, _, rfl⟩ | ⟨_, a, e1, e2, ⟨_, rfl⟩ | ⟨_, rfl⟩ | ⟨_, hx, L', C', t, hL, rfl⟩⟩
  · exact ⟨_, _, _, rfl, h⟩
  · exact ⟨_, _, _, rfl, h⟩
  · exact ⟨_, _, _, rfl, invL_fail h.lk _ _ _ _ _, h.und, h.ug, h.ua, h.nd, h.len, h.at_⟩
  · have ha := h.at_ _ (mfind_mem e1)
    refine ⟨_, _, _, rfl, inv_put h ?_ (by rw [e1]; rfl) ⟨prf_add ha.1 hf hx, ha.2⟩⟩
    rcases hL.1 with rfl | rfl
    · exact h.lk
    · exact invL_del h.lk _
theorem live_len (now : Int) (A : AT) : (live now A).length ≤ A.length := List.length_filter_le _ _
/-- Begin: what it may do -/
def BR (m : Int) (L : LL) (U : UL) (C : List (Str × Int)) (A : AT) (id u : Str) (now e : Int) (s' : login_Logins) : Prop :=
  (e ≠ 0 ∧ s' = stM m L U C A) ∨ (e = 0 ∧ word u = true ∧ (live now A).length < 256 ∧ s' = stM m L U C (mputL id ⟨u, lim now, []⟩ (live now A)))
theorem prf_nil : prf [] := by unfold prf Fs; simp
theorem inv_live {L : LL} {U : UL} {A : AT} (h : Inv L U A) (now : Int) : Inv L U (live now A) :=
  ⟨h.lk, h.und, h.ug, h.ua, nodupK_filter h.nd, Nat.le_trans (live_len _ _) h.len, fun p hp => h.at_ p (List.mem_filter.1 hp).1⟩
theorem BR.good {m : Int} {L : LL} {U : UL} {C : List (Str × Int)} {A : AT} (h : Inv L U A) {id u : Str} {now e : Int} {s' : login_Logins} (p : BR m L U C A id u now e s') :
    ∃ A', s' = stM m L U C A' ∧ Inv L U A' := by
  rcases p with ⟨_, rfl⟩ | ⟨_, hw, hl, rfl⟩
  · exact ⟨_, rfl, h⟩
  · refine ⟨_, rfl, h.lk, h.und, h.ug, h.ua, nodupK_put (inv_live h now).nd, ?_, fun p hp => ?_⟩
    · rw [len_put]; split <;> omega
    · rcases mem_put hp with rfl | hp
      · exact ⟨prf_nil, word_fits hw⟩
      · exact (inv_live h now).at_ p hp
abbrev salt : Str := [115, 97, 108, 116]
def FR (m : Int) (L : LL) (U : UL) (C : List (Str × Int)) (A : AT) (id : Str) (level now : Int) (r : Str × List api_Proof × Int × login_Logins) : Prop :=
  (r.1 = [] ∧ r.2.1 = [] ∧ (r.2.2.1 = 6 ∨ r.2.2.1 = 21 ∨ r.2.2.1 = 13) ∧ r.2.2.2 = stM m L U C A) ∨
    (∃ a, mfind id A = some a ∧ level ≤ (a.proofs.length : Int) ∧ r = (a.user, a.proofs, 0, stM m L U C (mdelL id A)))
theorem inv_del {L : LL} {U : UL} {A : AT} (h : Inv L U A) (id : Str) : Inv L U (mdelL id A) :=
  ⟨h.lk, h.und, h.ug, h.ua, nodupK_del h.nd, by have := len_del (k := id) h.nd; have := h.len; omega, fun p hp => h.at_ p (mem_del hp)⟩
theorem FR.good {m : Int} {L : LL} {U : UL} {C : List (Str × Int)} {A : AT} (h : Inv L U A) {id : Str} {level now : Int} {r : Str × List api_Proof × Int × login_Logins} (p : FR m L U C A id level now r) :
    ∃ A', r.2.2.2 = stM m L U C A' ∧ Inv L U A' := by
  rcases p with ⟨_, _, _, e⟩ | ⟨a, _, _, rfl⟩
  · exact ⟨A, e, h⟩
  · exact ⟨_, rfl, inv_del h id⟩
structure small (o : law39_Op) : Prop where
  i : o.ID.length ≤ 300
  u : o.User.length ≤ 300
  w : o.Word.length ≤ 300
  c : o.Code.length ≤ 300
  s : o.S.length ≤ 300
theorem fits300 {s : Str} (h : s.length ≤ 300) : fits s := by unfold fits; omega
theorem mak_salt (p : Str) (r : Int) : fits (makS p salt r).1.Salt := by
  unfold makS
  split
  · unfold fits; simp [zvS]
  · split <;> (unfold fits; simp [zvS])
theorem verifier_eq (o : law39_Op) (h : small o) : ∃ v, law39_verifier o = some v ∧ fits v.Salt := by
  refine ⟨_, ?_, mak_salt o.Word (gmax 0 (gmin o.Rounds 3))⟩
  unfold law39_verifier
  rw [secret_Make_eq _ _ _ (fits300 h.w) (by unfold fits; simp), Option.bind_some]
theorem few_loop (l : List law39_Op) (hf : fits l) : ∀ (r : List law39_Op) (i n : Nat), l.drop i = r → i ≤ l.length → r.length < n → (∀ o ∈ l.take i, small o) →
    law39_few_L1 n l (i : Int) = some false ∨ (law39_few_L1 n l (i : Int) = some true ∧ l.length ≤ 20 ∧ ∀ o ∈ l, small o) := by
  unfold fits at hf
  intro r
  induction r with
  | nil =>
    intro i n hd hi hn ht
    obtain ⟨n, rfl⟩ : ∃ k, n = k + 1 := ⟨n - 1, by simp at hn; omega⟩
    have hl := drop_nil hd
    unfold law39_few_L1
    rw [if_neg (by simp; omega)]
    rw [List.take_of_length_le hl] at ht
    by_cases h : l.length ≤ 20
    · exact .inr ⟨by simp; omega, h, ht⟩
    · exact .inl (by simp; omega)
  | cons o r ih =>
    intro i n hd hi hn ht
    obtain ⟨n, rfl⟩ : ∃ k, n = k + 1 := ⟨n - 1, by simp at hn; omega⟩
    obtain ⟨h1, h2, h3⟩ := drop_more hd
    have hlt := drop_lt hd
    unfold law39_few_L1
    rw [if_pos (by simp; omega), idx_n, h2, Option.bind_some]
    by_cases hb : o.ID.length > 300 ∨ o.User.length > 300 ∨ o.Word.length > 300 ∨ o.Code.length > 300 ∨ o.S.length > 300
    · rw [if_pos (by simp; omega)]; exact .inl rfl
    · rw [if_neg (by simp; omega), w64n (show i < 9223372036854775807 by omega)]
      refine ih (i + 1) n h3 (by omega) (by simp at hn; omega) fun s hs => ?_
      rw [take_more hd] at hs
      rcases List.mem_append.1 hs with hs | hs
      · exact ht s hs
      · simp at hs; subst hs; exact ⟨by omega, by omega, by omega, by omega, by omega⟩
theorem few_gate (l : List law39_Op) (hf : fits l) : law39_few l = some false ∨ (law39_few l = some true ∧ l.length ≤ 20 ∧ ∀ o ∈ l, small o) :=
  few_loop l hf l 0 fuel rfl (by omega) (fuel_pos hf) (by simp)
abbrev sw : Str := [115, 101, 99, 114, 101, 116, 119, 111, 114, 100]
abbrev seed : Str := [115, 101, 101, 100]
def v0 : api_Verifier := (makS sw salt 1).1
abbrev first : Str := [102, 105, 114, 115, 116]
abbrev bob : Str := [98, 111, 98]
def stp (n : Nat) (u : Str) (L : LL) : LL := if lockedS L u 0 then L else failL n 100 50 L u 0
def LS (n : Nat) : Nat → LL
  | 0 => []
  | j + 1 => stp n bob (stp n ann (LS n j))
structure FQ (n j : Nat) : Prop where
  a : lockedS (LS n j) ann 0 = decide (n ≤ j)
  b : lockedS (stp n ann (LS n j)) bob 0 = decide (n ≤ j)
  c : lockedS (LS n (j + 1)) ann 0 = decide (n ≤ j + 1)
  d : lockedS (LS n j) bob 0 = decide (n ≤ j)
  e : lockedS (mdelL ann (LS n j)) bob 0 = decide (n ≤ j)
/-- what play keeps, without a call of Enroll for ann -/
structure KI (d : Int) (N : Nat) (L : LL) (U : UL) (C : List (Str × Int)) (A : AT) : Prop where
  inv : Inv L U A
  u : ∃ v, mfind ann U = some ⟨v, seed⟩
  c : ∃ d', mfind ann C = some d' ∧ d ≤ d'
  n : A.length ≤ N
theorem CG.keep {d : Int} {C C' : List (Str × Int)} {u : Str} (h : CG C C' u) (hc : ∃ d', mfind ann C = some d' ∧ d ≤ d') : ∃ d', mfind ann C' = some d' ∧ d ≤ d' := by
  rcases h with rfl | ⟨n, rfl, hn⟩
  · exact hc
  · obtain ⟨d', h1, h2⟩ := hc
    rw [mfind_put]
    by_cases hu : ann = u
    · subst hu
      rw [if_pos rfl]
      exact ⟨n, rfl, by have := hn d' h1; omega⟩
    · rw [if_neg hu]; exact ⟨d', h1, h2⟩
theorem PR.keep {d : Int} {N : Nat} {m : Int} {L : LL} {U : UL} {C : List (Str × Int)} {A : AT} (h : KI d N L U C A) {id : Str} {f now e : Int} {s' : login_Logins} (hf : f = 1 ∨ f = 2) (p : PR m L U C A id f now e s') :
    ∃ L' C' A', s' = stM m L' U C' A' ∧ KI d (N + 1) L' U C' A' := by
  have hN := h.n
  obtain ⟨L', C', A', e, hI⟩ := p.good h.inv hf
  refine ⟨L', C', A', e, hI, h.u, ?_, ?_⟩
  · rcases p with ⟨_, _, rfl⟩ | ⟨_, a, e1, e2, ⟨_, rfl⟩ | ⟨_, rfl⟩ | ⟨_, hx, L2, C2, t, hL, rfl⟩⟩
    · obtain rfl := Option.some.inj (congrArg login_Logins.counters e); exact h.c
    · obtain rfl := Option.some.inj (congrArg login_Logins.counters e); exact h.c
    · obtain rfl := Option.some.inj (congrArg login_Logins.counters e); exact h.c
    · obtain rfl := Option.some.inj (congrArg login_Logins.counters e); exact hL.2.keep h.c
  · rcases p with ⟨_, _, rfl⟩ | ⟨_, a, e1, e2, ⟨_, rfl⟩ | ⟨_, rfl⟩ | ⟨_, hx, L2, C2, t, hL, rfl⟩⟩
    · obtain rfl := Option.some.inj (congrArg login_Logins.attempts e); omega
    · obtain rfl := Option.some.inj (congrArg login_Logins.attempts e); omega
    · obtain rfl := Option.some.inj (congrArg login_Logins.attempts e); omega
    · obtain rfl := Option.some.inj (congrArg login_Logins.attempts e)
      rw [len_put, e1]; simp; omega
theorem BR.keep {d : Int} {N : Nat} {m : Int} {L : LL} {U : UL} {C : List (Str × Int)} {A : AT} (h : KI d N L U C A) {id u : Str} {now e : Int} {s' : login_Logins} (p : BR m L U C A id u now e s') :
    ∃ A', s' = stM m L U C A' ∧ KI d (N + 1) L U C A' := by
  have hN := h.n
  obtain ⟨A', e, hI⟩ := p.good h.inv
  refine ⟨A', e, hI, h.u, h.c, ?_⟩
  have hv := live_len now A
  rcases p with ⟨_, rfl⟩ | ⟨_, hw, hl, rfl⟩
  · obtain rfl := Option.some.inj (congrArg login_Logins.attempts e); omega
  · obtain rfl := Option.some.inj (congrArg login_Logins.attempts e)
    rw [len_put]; split <;> omega
theorem FR.keep {d : Int} {N : Nat} {m : Int} {L : LL} {U : UL} {C : List (Str × Int)} {A : AT} (h : KI d N L U C A) {id : Str} {level now : Int} {r : Str × List api_Proof × Int × login_Logins} (p : FR m L U C A id level now r) :
    ∃ A', r.2.2.2 = stM m L U C A' ∧ KI d (N + 1) L U C A' := by
  have hN := h.n
  rcases p with ⟨_, _, _, e⟩ | ⟨a, _, _, rfl⟩
  · exact ⟨A, e, h.inv, h.u, h.c, by omega⟩
  · exact ⟨_, rfl, inv_del h.inv id, h.u, h.c, by have := len_del (k := id) h.inv.nd; omega⟩
abbrev E0 : login_Logins := ⟨none, none, none, none⟩
theorem nil_true (o : law39_Op) : law39_LoginNil o = some true := by
  unfold law39_LoginNil
  rcases few_gate [o] (by unfold fits; simp) with h | ⟨h, _, hs⟩
  · rw [h]; simp [alive39]
  · obtain ⟨v, hv, _⟩ := verifier_eq o (hs o (by simp))
    have a1 : login_Logins_Finish__nil o.ID o.Level o.Now = some ([], [], 1) := rfl
    have a2 : login_Logins_Enroll__nil o.User v o.Code = some 1 := rfl
    have a3 : login_Logins_Begin__nil o.ID o.User o.Now = some 1 := rfl
    have a4 : login_Logins_Password__nil o.ID o.Word o.Now = some 1 := rfl
    have a5 : login_Logins_Code__nil o.ID o.Code o.Now = some 1 := rfl
    have a6 : login_Logins_Locked__nil o.User o.Now = some false := rfl
    have a7 : login_Logins_Drop__nil o.User = some false := rfl
    have a8 : login_Logins_Open__nil o.Now = some 0 := rfl
    have b1 : login_Logins_Finish E0 o.ID o.Level o.Now = some ([], [], 1, E0) := rfl
    have b2 : login_Logins_Enroll E0 o.User v o.Code = some (1, E0) := rfl
    have b3 : login_Logins_Begin E0 o.ID o.User o.Now = some (1, E0) := rfl
    have b4 : login_Logins_Password E0 o.ID o.Word o.Now = some (1, E0) := rfl
    have b5 : login_Logins_Code E0 o.ID o.Code o.Now = some (1, E0) := rfl
    have b6 : login_Logins_Locked E0 o.User o.Now = some false := rfl
    have b7 : login_Logins_Drop E0 o.User = some (false, E0) := rfl
    have b8 : login_Logins_Open E0 o.Now = some 0 := rfl
    simp only [h, Option.bind_some, Bool.not_true, Bool.false_eq_true, if_false, a1, hv, a2, a3, a4, a5, a6, a7, a8, b1, b2, b3, b4, b5, b6, b7, b8, bne_self_eq_false, List.length_nil, alive39]
    rfl
end Go.KW.S
