/- Own work: a part of the proofs of this seat. -/
import Derived.Test.YtkhodjenbganfaaGreatDoorKwP39a
set_option linter.unusedVariables false
set_option linter.unusedSimpArgs false
namespace Go.KW.S
open Go Go.KW
abbrev ann : Str := [97, 110, 110]
abbrev AT := List (Str × login_attempt)
abbrev UL := List (Str × login_credentials)
abbrev stM (m : Int) (L : LL) (U : UL) (C : List (Str × Int)) (A : AT) : login_Logins := ⟨some ⟨m, 100, 50, some L⟩, some U, some C, some A⟩
def exS (a : login_attempt) (now : Int) : Bool := decide (lim now - lim a.begun ≥ 300)
theorem expired_eq (a : login_attempt) (now : Int) : login_attempt_expired a now = some (exS a now) := by
  unfold login_attempt_expired clock_Sub exS
  have h1 := lim_range now
  have h2 := lim_range a.begun
  have e : ∀ t, clock_limited t = some (lim t) := fun t => rfl
  rw [e, e, Option.bind_some, Option.bind_some, Option.bind_some, w64 (by omega) (by omega)]
def live (now : Int) (A : AT) : AT := A.filter fun p => !exS p.2 now
theorem ready_eq (m : Int) (L : LL) (U : UL) (C : List (Str × Int)) (A : AT) : login_Logins_ready (stM m L U C A) = some true := rfl
def findE (A : AT) (id : Str) (now : Int) : Int := match mfind id A with | none => 6 | some a => if exS a now then 13 else 0
theorem find_some {m : Int} {L : LL} {U : UL} {C : List (Str × Int)} {A : AT} {id : Str} {now : Int} (h : findE A id now = 0) : ∃ a, mfind id A = some a ∧ exS a now = false ∧ login_Logins_find (stM m L U C A) id now = some (a, 0) := by
  unfold login_Logins_find
  unfold findE at *
  rcases opt_cases (mfind id A) with e | ⟨a, e⟩
  · rw [e] at h; simp at h
  · rw [e] at h
    simp only at h
    cases hx : exS a now with
    | true => rw [hx] at h; simp at h
    | false =>
      refine ⟨a, e, hx, ?_⟩
      rw [ready_eq, Option.bind_some, if_neg (by simp), Option.bind_some]
      simp [mhas, mgetD, e, expired_eq, hx]
theorem fuel_3 : ∃ n, fuel = n + 5 := ⟨fuel - 5, by unfold fuel; rfl⟩
def Fs : List (List Int) := [[], [1], [2], [1, 2], [2, 1]]
def prf (ps : List api_Proof) : Prop := ps.map (·.Factor) ∈ Fs
theorem w01 : IntKind.i64.wrap 1 = 1 := by decide
theorem w11 : IntKind.i64.wrap 2 = 2 := by decide
theorem has_eq (u : Str) (b : Int) {ps : List api_Proof} (h : ps.length ≤ 2) (f : Int) : login_attempt_has ⟨u, b, ps⟩ f = some (ps.any fun p => p.Factor == f) := by
  obtain ⟨n, hn⟩ := fuel_3
  unfold login_attempt_has slices_ContainsFunc_api_Proof_api_Proof__attempt_has_1 slices_IndexFunc_api_Proof_api_Proof__attempt_has_1
  rw [hn]
  rcases ps with _ | ⟨x, _ | ⟨y, _ | _⟩⟩
  · simp [slices_IndexFunc_api_Proof_api_Proof__attempt_has_1_L1]
  · by_cases hx : x.Factor = f <;> simp [slices_IndexFunc_api_Proof_api_Proof__attempt_has_1_L1, login_attempt_has_1, idx, w01, hx]
  · by_cases hx : x.Factor = f <;> by_cases hy : y.Factor = f <;> simp [slices_IndexFunc_api_Proof_api_Proof__attempt_has_1_L1, login_attempt_has_1, idx, w01, w11, hx, hy]
  · simp at h
theorem any_map (ps : List api_Proof) (f : Int) : (ps.any fun p => p.Factor == f) = (ps.map (·.Factor)).any (· == f) := by rw [List.any_map]; rfl
theorem clone_eq {ps : List api_Proof} (h : ps.length ≤ 2) : slices_Clone_api_Proof_api_Proof ps = some ps := by
  unfold slices_Clone_api_Proof_api_Proof
  rw [chk_t (by unfold fitL; simp; omega)]; rfl
theorem prf_add {ps : List api_Proof} (h : prf ps) {f t : Int} (hf : f = 1 ∨ f = 2) (hn : (ps.any fun p => p.Factor == f) = false) : prf (ps ++ [⟨f, t⟩]) := by
  unfold prf Fs at *
  rw [any_map] at hn
  simp only [List.map_append, List.map_cons, List.map_nil]
  simp only [List.mem_cons, List.not_mem_nil, or_false] at h
  rcases hf with rfl | rfl <;> rcases h with h | h | h | h | h <;> rw [h] at hn ⊢ <;> simp at hn ⊢
structure Inv (L : LL) (U : UL) (A : AT) : Prop where
  lk : InvL L
  und : nodupK U
  ug : ∀ p ∈ U, fits p.2.verifier.Salt ∧ fits p.2.code
  ua : (mfind ann U).isSome = true
  nd : nodupK A
  len : A.length ≤ 256
  at_ : ∀ p ∈ A, prf p.2.proofs ∧ fits p.2.user
/-- what presenting a factor may do -/
def PR (m : Int) (L : LL) (U : UL) (C : List (Str × Int)) (A : AT) (id : Str) (f now e : Int) (s' : login_Logins) : Prop :=
  (findE A id now ≠ 0 ∧ e = findE A id now ∧ s' = stM m L U C A) ∨ (findE A id now = 0 ∧ ∃ a, mfind id A = some a ∧ exS a now = false ∧
    (((e = 12 ∨ e = 22) ∧ s' = stM m L U C A) ∨ (e = 11 ∧ s' = stM m (failL m 100 50 L a.user now) U C A) ∨
      (e = 0 ∧ (a.proofs.any fun p => p.Factor == f) = false ∧ ∃ L' C' t, (L' = L ∨ L' = mdelL a.user L) ∧ s' = stM m L' U C' (mputL id ⟨a.user, a.begun, a.proofs ++ [⟨f, t⟩]⟩ A))))
theorem optC_some_eq {A B : Type} (a : A) (k0 : Option B) (k1 : A → Option B) : optC (some a) k0 k1 = k1 a := rfl
theorem inv_put {L : LL} {U : UL} {A : AT} (h : Inv L U A) {L' : LL} (hL : InvL L') {id : Str} {a : login_attempt} (hk : (mfind id A).isSome = true) (hg : prf a.proofs ∧ fits a.user) : Inv L' U (mputL id a A) := by
  refine ⟨hL, h.und, h.ug, h.ua, nodupK_put h.nd, ?_, fun p hp => ?_⟩
  · rw [len_put, if_pos hk]; exact h.len
  · rcases mem_put hp with rfl | hp
    · exact hg
    · exact h.at_ p hp
/-- what presenting leaves behind -/
theorem PR.good {m : Int} {L : LL} {U : UL} {C : List (Str × Int)} {A : AT} (h : Inv L U A) {id : Str} {f now e : Int} {s' : login_Logins} (hf : f = 1 ∨ f = 2) (p : PR m L U C A id f now e s') :
    ∃ L' C' A', s' = stM m L' U C' A' ∧ Inv L' U A' := by
  rcases p with ⟨_, _, rfl⟩ | ⟨_, a, e1, e2, ⟨_, rfl⟩ | ⟨_, rfl⟩ | ⟨_, hx, L', C', t, hL, rfl⟩⟩
  · exact ⟨_, _, _, rfl, h⟩
  · exact ⟨_, _, _, rfl, h⟩
  · exact ⟨_, _, _, rfl, invL_fail h.lk _ _ _ _ _, h.und, h.ug, h.ua, h.nd, h.len, h.at_⟩
  · have ha := h.at_ _ (mfind_mem e1)
    refine ⟨_, _, _, rfl, inv_put h ?_ (by rw [e1]; rfl) ⟨prf_add ha.1 hf hx, ha.2⟩⟩
    rcases hL with rfl | rfl
    · exact h.lk
    · exact invL_del h.lk _
theorem live_len (now : Int) (A : AT) : (live now A).length ≤ A.length := List.length_filter_le _ _
/-- Begin: what it may do -/
def BR (m : Int) (L : LL) (U : UL) (C : List (Str × Int)) (A : AT) (id u : Str) (now e : Int) (s' : login_Logins) : Prop :=
  (e ≠ 0 ∧ s' = stM m L U C A) ∨ (e = 0 ∧ word u = true ∧ (live now A).length < 256 ∧ s' = stM m L U C (mputL id ⟨u, lim now, []⟩ (live now A)))
theorem prf_nil : prf [] := by unfold prf Fs; simp
theorem inv_live {L : LL} {U : UL} {A : AT} (h : Inv L U A) (now : Int) : Inv L U (live now A) :=
  ⟨h.lk, h.und, h.ug, h.ua, nodupK_filter h.nd, Nat.le_trans (live_len _ _) h.len, fun p hp => h.at_ p (List.mem_filter.1 hp).1⟩
theorem BR.good {m : Int} {L : LL} {U : UL} {C : List (Str × Int)} {A : AT} (h : Inv L U A) {id u : Str} {now e : Int} {s' : login_Logins} (p : BR m L U C A id u now e s') :
    ∃ A', s' = stM m L U C A' ∧ Inv L U A' := by
  rcases p with ⟨_, rfl⟩ | ⟨_, hw, hl, rfl⟩
  · exact ⟨_, rfl, h⟩
  · refine ⟨_, rfl, h.lk, h.und, h.ug, h.ua, nodupK_put (inv_live h now).nd, ?_, fun p hp => ?_⟩
    · rw [len_put]; split <;> omega
    · rcases mem_put hp with rfl | hp
      · exact ⟨prf_nil, word_fits hw⟩
      · exact (inv_live h now).at_ p hp
abbrev salt : Str := [115, 97, 108, 116]
def FR (m : Int) (L : LL) (U : UL) (C : List (Str × Int)) (A : AT) (id : Str) (level now : Int) (r : Str × List api_Proof × Int × login_Logins) : Prop :=
  (r.1 = [] ∧ r.2.1 = [] ∧ (r.2.2.1 = 6 ∨ r.2.2.1 = 21 ∨ r.2.2.1 = 13) ∧ r.2.2.2 = stM m L U C A) ∨
    (∃ a, mfind id A = some a ∧ level ≤ (a.proofs.length : Int) ∧ r = (a.user, a.proofs, 0, stM m L U C (mdelL id A)))
theorem inv_del {L : LL} {U : UL} {A : AT} (h : Inv L U A) (id : Str) : Inv L U (mdelL id A) :=
  ⟨h.lk, h.und, h.ug, h.ua, nodupK_del h.nd, by have := len_del (k := id) h.nd; have := h.len; omega, fun p hp => h.at_ p (mem_del hp)⟩
theorem FR.good {m : Int} {L : LL} {U : UL} {C : List (Str × Int)} {A : AT} (h : Inv L U A) {id : Str} {level now : Int} {r : Str × List api_Proof × Int × login_Logins} (p : FR m L U C A id level now r) :
    ∃ A', r.2.2.2 = stM m L U C A' ∧ Inv L U A' := by
  rcases p with ⟨_, _, _, e⟩ | ⟨a, _, _, rfl⟩
  · exact ⟨A, e, h⟩
  · exact ⟨_, rfl, inv_del h id⟩
structure small (o : law39_Op) : Prop where
  i : o.ID.length ≤ 300
  u : o.User.length ≤ 300
  w : o.Word.length ≤ 300
  c : o.Code.length ≤ 300
  s : o.S.length ≤ 300
theorem mak_salt (p : Str) (r : Int) : fits (makS p salt r).1.Salt := by
  unfold makS
  split
  · unfold fits; simp [zvS]
  · split <;> (unfold fits; simp [zvS])
abbrev sw : Str := [115, 101, 99, 114, 101, 116, 119, 111, 114, 100]
abbrev seed : Str := [115, 101, 101, 100]
def v0 : api_Verifier := (makS sw salt 1).1
def U0 : UL := [(ann, ⟨v0, seed⟩)]
theorem findE_at {A : AT} {id : Str} {now : Int} {a : login_attempt} (h : mfind id A = some a) : findE A id now = if exS a now then 13 else 0 := by unfold findE; simp only [h]
abbrev first : Str := [102, 105, 114, 115, 116]
abbrev bob : Str := [98, 111, 98]
theorem pw_wrong {m : Int} {L : LL} {U : UL} {C : List (Str × Int)} {A : AT} {id u pw : Str} (hL : InvL L) (ha : mfind id A = some ⟨u, 0, []⟩) (hu : fits u)
    (hc : login_Logins_byPassword (stM m L U C A) u pw 0 = some (false, stM m L U C A)) :
    login_Logins_Password (stM m L U C A) id pw 0 = some (if lockedS L u 0 then (22, stM m L U C A) else (11, stM m (failL m 100 50 L u 0) U C A)) := by
  have hf : findE A id 0 = 0 := by rw [findE_at ha]; rfl
  obtain ⟨a, e1, e2, e3⟩ := find_some (m := m) (L := L) (U := U) (C := C) hf
  rw [ha] at e1
  obtain rfl := Option.some.inj e1
  have hh : login_attempt_has ⟨u, 0, []⟩ 1 = _ := has_eq u 0 (ps := []) (by simp) 1
  unfold login_Logins_Password login_Logins_present__Logins_byPassword
  simp only [e3, Option.bind_some, bne_self_eq_false, Bool.false_eq_true, if_false, hh, List.any_nil, optC_some_eq, locked_eq]
  cases hk : lockedS L u 0 with
  | true => rfl
  | false => simp only [Bool.false_eq_true, if_false, hc, Option.bind_some, Bool.not_false, if_true, optC_some_eq, fail_eq m 100 50 hL u 0 hu]
theorem pw_right {m : Int} {L : LL} {U : UL} {C : List (Str × Int)} {A : AT} {id u pw : Str} (ha : mfind id A = some ⟨u, 0, []⟩)
    (hc : login_Logins_byPassword (stM m L U C A) u pw 0 = some (true, stM m (mdelL u L) U C A)) :
    ∃ A', login_Logins_Password (stM m L U C A) id pw 0 = some (if lockedS L u 0 then (22, stM m L U C A) else (0, stM m (mdelL u L) U C A')) := by
  have hf : findE A id 0 = 0 := by rw [findE_at ha]; rfl
  obtain ⟨a, e1, e2, e3⟩ := find_some (m := m) (L := L) (U := U) (C := C) hf
  rw [ha] at e1
  obtain rfl := Option.some.inj e1
  have hh : login_attempt_has ⟨u, 0, []⟩ 1 = _ := has_eq u 0 (ps := []) (by simp) 1
  unfold login_Logins_Password login_Logins_present__Logins_byPassword
  simp only [e3, Option.bind_some, bne_self_eq_false, Bool.false_eq_true, if_false, hh, List.any_nil, optC_some_eq, locked_eq]
  cases hk : lockedS L u 0 with
  | true => exact ⟨A, rfl⟩
  | false =>
    simp only [Bool.false_eq_true, if_false, hc, Option.bind_some, Bool.not_true, clone_eq (ps := []) (by simp), clock_Add_eq]
    rw [chk_t (by rfl), chk_t (show (some A : GMap Str login_attempt).isSome = true from rfl), Option.bind_some]
    exact ⟨_, rfl⟩
def stp (n : Nat) (u : Str) (L : LL) : LL := if lockedS L u 0 then L else failL n 100 50 L u 0
def LS (n : Nat) : Nat → LL
  | 0 => []
  | j + 1 => stp n bob (stp n ann (LS n j))
theorem stp_inv (n : Nat) (u : Str) {L : LL} (h : InvL L) : InvL (stp n u L) := by
  unfold stp; split
  · exact h
  · exact invL_fail h _ _ _ _ _
theorem LS_inv (n : Nat) : ∀ j, InvL (LS n j)
  | 0 => invL_nil
  | j + 1 => stp_inv n bob (stp_inv n ann (LS_inv n j))
def FF (n j : Nat) : Bool := (lockedS (LS n j) ann 0 == decide (n ≤ j)) && (lockedS (stp n ann (LS n j)) bob 0 == decide (n ≤ j)) && (lockedS (LS n (j + 1)) ann 0 == decide (n ≤ j + 1)) &&
  (lockedS (LS n j) bob 0 == decide (n ≤ j)) && (lockedS (mdelL ann (LS n j)) bob 0 == decide (n ≤ j))
theorem FF_all : ((List.range 8).all fun n => (List.range 10).all fun j => FF (n + 1) j) = true := by kernel_rfl
theorem FF_at {n j : Nat} (h1 : 1 ≤ n) (h2 : n ≤ 8) (h3 : j ≤ 9) : FF n j = true := by
  have := List.all_eq_true.1 (List.all_eq_true.1 FF_all (n - 1) (List.mem_range.2 (by omega))) j (List.mem_range.2 (by omega))
  rwa [show n - 1 + 1 = n by omega] at this
structure FQ (n j : Nat) : Prop where
  a : lockedS (LS n j) ann 0 = decide (n ≤ j)
  b : lockedS (stp n ann (LS n j)) bob 0 = decide (n ≤ j)
  c : lockedS (LS n (j + 1)) ann 0 = decide (n ≤ j + 1)
  d : lockedS (LS n j) bob 0 = decide (n ≤ j)
  e : lockedS (mdelL ann (LS n j)) bob 0 = decide (n ≤ j)
theorem FQ_at {n j : Nat} (h1 : 1 ≤ n) (h2 : n ≤ 8) (h3 : j ≤ 9) : FQ n j := by
  have h := FF_at h1 h2 h3
  unfold FF at h
  simp only [Bool.and_eq_true, beq_iff_eq] at h
  exact ⟨h.1.1.1.1, h.1.1.1.2, h.1.1.2, h.1.2, h.2⟩
abbrev AX : AT := [([120], ⟨ann, 0, []⟩)]
abbrev AY : AT := [([120], ⟨ann, 0, []⟩), ([121], ⟨bob, 0, []⟩)]
theorem eight {n : Nat} (h1 : 1 ≤ n) (h2 : n ≤ 8) : n = 1 ∨ n = 2 ∨ n = 3 ∨ n = 4 ∨ n = 5 ∨ n = 6 ∨ n = 7 ∨ n = 8 := by omega
theorem ann_n {n : Nat} (h1 : 1 ≤ n) (h2 : n ≤ 8) : law39_ann (n : Int) = some (some (stM n [] U0 [] [])) := by
  rcases eight h1 h2 with rfl | rfl | rfl | rfl | rfl | rfl | rfl | rfl <;> kernel_rfl
theorem beg_x {n : Nat} (h1 : 1 ≤ n) (h2 : n ≤ 8) : login_Logins_Begin (stM n [] U0 [] []) [120] ann 0 = some (0, stM n [] U0 [] AX) := by
  rcases eight h1 h2 with rfl | rfl | rfl | rfl | rfl | rfl | rfl | rfl <;> kernel_rfl
theorem beg_y {n : Nat} (h1 : 1 ≤ n) (h2 : n ≤ 8) : login_Logins_Begin (stM n [] U0 [] AX) [121] bob 0 = some (0, stM n [] U0 [] AY) := by
  rcases eight h1 h2 with rfl | rfl | rfl | rfl | rfl | rfl | rfl | rfl <;> kernel_rfl
theorem make0 : secret_Make sw salt 1 = some (v0, 0) := by kernel_rfl
theorem check0 : secret_Check v0 sw = some true := by kernel_rfl
theorem by_ann (m : Int) (L : LL) (C : List (Str × Int)) (A : AT) {pw : Str} {b : Bool} (hc : secret_Check v0 pw = some b) :
    login_Logins_byPassword (stM m L U0 C A) ann pw 0 = some (b, if b then stM m (mdelL ann L) U0 C A else stM m L U0 C A) := by
  have e : mfind ann U0 = some ⟨v0, seed⟩ := rfl
  unfold login_Logins_byPassword
  rw [Option.bind_some]
  cases b with
  | false => simp [mhas, mgetD, e, hc]
  | true =>
    simp only [mhas, mgetD, e, Option.getD_some, Option.isSome_some, Bool.not_true, Bool.false_eq_true, if_false, hc, Option.bind_some]
    rfl
theorem by_bob (m : Int) (L : LL) (C : List (Str × Int)) (A : AT) (pw : Str) :
    login_Logins_byPassword (stM m L U0 C A) bob pw 0 = some (false, stM m L U0 C A) := by
  have e : mfind bob U0 = none := rfl
  unfold login_Logins_byPassword
  simp [mhas, mgetD, e]
theorem logins_locked (m : Int) (L : LL) (U : UL) (C : List (Str × Int)) (A : AT) (u : Str) (now : Int) : login_Logins_Locked (stM m L U C A) u now = some (lockedS L u now) := by
  unfold login_Logins_Locked
  simp only [ready_eq, Option.bind_some, if_true, optC_some_eq, locked_eq]
theorem silence_loop {n k : Nat} (h1 : 1 ≤ n) (h2 : n ≤ 8) (hk : k ≤ 9) {word_1 : Str} (hc : secret_Check v0 word_1 = some false) : ∀ (d i f : Nat), i + d = k → d < f →
    law39_LoginSilence_L1 f word_1 (n : Int) (k : Int) (stM n (LS n i) U0 [] AY) (i : Int) = some true := by
  intro d
  induction d with
  | zero =>
    intro i f hi hf
    obtain ⟨f, rfl⟩ : ∃ q, f = q + 1 := ⟨f - 1, by omega⟩
    obtain rfl : i = k := by omega
    have q := FQ_at h1 h2 (j := i) (by omega)
    unfold law39_LoginSilence_L1
    rw [if_neg (by simp)]
    obtain ⟨A', hp⟩ := pw_right (m := n) (L := LS n i) (U := U0) (C := []) (A := AY) (id := [120]) (u := ann) (pw := sw) rfl (by have := by_ann n (LS n i) [] AY check0; simpa using this)
    rw [hp, q.a, Option.bind_some]
    by_cases hni : n ≤ i
    · have e1 : decide ((i : Int) < (n : Int)) = false := decide_eq_false (by omega)
      have e2 : decide ((i : Int) ≥ (n : Int)) = true := decide_eq_true (by omega)
      simp only [hni, decide_true, if_true, logins_locked, q.d, alive39, e1, e2]
      rfl
    · have e1 : decide ((i : Int) < (n : Int)) = true := decide_eq_true (by omega)
      have e2 : decide ((i : Int) ≥ (n : Int)) = false := decide_eq_false (by omega)
      simp only [hni, decide_false, Bool.false_eq_true, if_false, logins_locked, q.e, alive39, e1, e2]
      rfl
  | succ d ih =>
    intro i f hi hf
    obtain ⟨f, rfl⟩ : ∃ q, f = q + 1 := ⟨f - 1, by omega⟩
    have q := FQ_at h1 h2 (j := i) (by omega)
    have hI := LS_inv n i
    have p1 := pw_wrong (m := n) (L := LS n i) (U := U0) (C := []) (A := AY) (id := [120]) (u := ann) (pw := word_1) hI rfl (by unfold fits; simp) (by have := by_ann n (LS n i) [] AY hc; simpa using this)
    have p2 := pw_wrong (m := n) (L := stp n ann (LS n i)) (U := U0) (C := []) (A := AY) (id := [121]) (u := bob) (pw := word_1) (stp_inv n ann hI) rfl (by unfold fits; simp) (by_bob n _ [] AY word_1)
    have hs : (if lockedS (LS n i) ann 0 = true then ((22 : Int), stM n (LS n i) U0 [] AY) else (11, stM n (failL n 100 50 (LS n i) ann 0) U0 [] AY)) = (if n ≤ i then 22 else 11, stM n (stp n ann (LS n i)) U0 [] AY) := by
      unfold stp; rw [q.a]; by_cases hni : n ≤ i <;> simp [hni]
    have hs2 : (if lockedS (stp n ann (LS n i)) bob 0 = true then ((22 : Int), stM n (stp n ann (LS n i)) U0 [] AY) else (11, stM n (failL n 100 50 (stp n ann (LS n i)) bob 0) U0 [] AY)) = (if n ≤ i then 22 else 11, stM n (LS n (i + 1)) U0 [] AY) := by
      have e : LS n (i + 1) = stp n bob (stp n ann (LS n i)) := rfl
      rw [e, show stp n bob (stp n ann (LS n i)) = if lockedS (stp n ann (LS n i)) bob 0 then stp n ann (LS n i) else failL n 100 50 (stp n ann (LS n i)) bob 0 from rfl, q.b]; by_cases hni : n ≤ i <;> simp [hni]
    unfold law39_LoginSilence_L1
    rw [if_pos (by simp; omega), p1, hs, Option.bind_some]
    simp only []
    rw [p2, hs2, Option.bind_some]
    simp only [logins_locked, q.c, w64n (show i < 9223372036854775807 by omega), Option.bind_some]
    have c1 : (((if n ≤ i then (22 : Int) else 11) != (if n ≤ i then 22 else 11)) || (((if n ≤ i then (22 : Int) else 11) == 22) != decide ((i : Int) ≥ (n : Int))) || (((if n ≤ i then (22 : Int) else 11) != 22) && ((if n ≤ i then (22 : Int) else 11) != 11))) = false := by
      by_cases hni : n ≤ i
      · have : (i : Int) ≥ n := by omega
        simp [hni]
      · have : ¬ (i : Int) ≥ n := by omega
        simp [hni]
    rw [c1, if_neg (by simp), Option.bind_some]
    have c2 : (decide (n ≤ i + 1) != decide (((i + 1 : Nat) : Int) ≥ (n : Int))) = false := by
      have : (n ≤ i + 1) ↔ (((i + 1 : Nat) : Int) ≥ (n : Int)) := by omega
      simp [this]
    rw [c2, if_neg (by simp)]
    exact ih (i + 1) f (by omega) (by omega)
theorem silence_true (most times : Int) (w : Str) (m0 : 0 ≤ most) (m1 : most < 256) (t0 : 0 ≤ times) (t1 : times < 256) (hf : fits w) : law39_LoginSilence most w times = some true := by
  obtain ⟨n, hn, n1, n8⟩ : ∃ n : Nat, IntKind.i64.wrap (1 + (Int.tmod (IntKind.i64.wrap most) 8)) = (n : Int) ∧ 1 ≤ n ∧ n ≤ 8 := by
    rw [w64 (x := most) (by omega) (by omega), Int.tmod_eq_emod_of_nonneg m0, w64 (by omega) (by omega)]
    exact ⟨(1 + most % 8).toNat, by omega, by omega, by omega⟩
  obtain ⟨k, hk, k9⟩ : ∃ k : Nat, Int.tmod (IntKind.i64.wrap times) 10 = (k : Int) ∧ k ≤ 9 := by
    rw [w64 (x := times) (by omega) (by omega), Int.tmod_eq_emod_of_nonneg t0]
    exact ⟨(times % 10).toNat, by omega, by omega⟩
  unfold law39_LoginSilence
  rw [hn, hk]
  by_cases h1 : (decide ((w.length : Int) > 300) || (w == sw)) = true
  · rw [if_pos h1, alive39]; rfl
  · rw [if_neg h1, ann_n n1 n8, Option.bind_some, optC_some_eq, make0, Option.bind_some]
    have hc := secret_Check_eq v0 w (mak_salt _ _) hf
    generalize chkS v0 w = b at hc
    simp only [bne_self_eq_false, Bool.false_eq_true, if_false, hc, Option.bind_some]
    cases b with
    | true => simp [alive39]
    | false =>
      rw [if_neg (by simp), beg_x n1 n8, Option.bind_some]
      simp only [beg_y n1 n8, Option.bind_some, bne_self_eq_false, Bool.false_eq_true, if_false]
      have e := silence_loop n1 n8 k9 hc k 0 fuel (by omega) (fuel_big (by omega))
      rw [show ((0 : Nat) : Int) = 0 from rfl] at e
      exact e
theorem u8_of {n : Int} (h : (Lit.int .u8 n).wf = true) : 0 ≤ n ∧ n < 256 := by
  simp only [Lit.wf, IntKind.min, IntKind.max, IntKind.signed, IntKind.bits, Bool.and_eq_true, decide_eq_true_eq, Bool.false_eq_true, if_false] at h
  omega
end Go.KW.S
