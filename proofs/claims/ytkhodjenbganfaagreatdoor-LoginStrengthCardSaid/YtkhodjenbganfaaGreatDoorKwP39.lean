/- Own work: a part of the proofs of this seat. -/
import Derived.Test.YtkhodjenbganfaaGreatDoorKwP39a
set_option linter.unusedVariables false
set_option linter.unusedSimpArgs false
namespace Go.KW.S
open Go Go.KW
abbrev ann : Str := [97, 110, 110]
abbrev AT := List (Str × login_attempt)
abbrev UL := List (Str × login_credentials)
abbrev stM (m : Int) (L : LL) (U : UL) (C : List (Str × Int)) (A : AT) : login_Logins := ⟨some ⟨m, 100, 50, some L⟩, some U, some C, some A⟩
def exS (a : login_attempt) (now : Int) : Bool := decide (lim now - lim a.begun ≥ 300)
theorem expired_eq (a : login_attempt) (now : Int) : login_attempt_expired a now = some (exS a now) := by
  unfold login_attempt_expired clock_Sub exS
  have h1 := lim_range now
  have h2 := lim_range a.begun
  have e : ∀ t, clock_limited t = some (lim t) := fun t => rfl
  rw [e, e, Option.bind_some, Option.bind_some, Option.bind_some, w64 (by omega) (by omega)]
theorem same_key {V : Type} {l : List (Str × V)} (hn : nodupK l) {p e : Str × V} (hp : p ∈ l) (he : e ∈ l) (h : p.1 = e.1) : p = e := by
  have h1 := mfind_of_mem hn (show (p.1, p.2) ∈ l from hp)
  have h2 := mfind_of_mem hn (show (e.1, e.2) ∈ l from he)
  rw [h, h2] at h1
  exact Prod.ext h (Option.some.inj h1).symm
theorem del_loop {V : Type} [DecidableEq V] (P : Str × V → Bool) (L : Nat → GMap Str V → List Str → Option (GMap Str V))
    (hL : ∀ n m done, L (n + 1) m done = pickAny (mleft m done) (some m) fun e => if P e = true then L n (mdel m e.1) (e.1 :: done) else L n m (e.1 :: done))
    (l0 : List (Str × V)) : ∀ (k : Nat) (l : List (Str × V)) (done : List Str) (n : Nat), (leftL l done).length = k → k < n → nodupK l → l.filter (fun p => !P p) = l0.filter (fun p => !P p) → (∀ p ∈ l, p.1 ∈ done → P p = false) →
      L n (some l) done = some (some (l0.filter fun p => !P p)) := by
  intro k
  induction k with
  | zero =>
    intro l done n hk hn hnd ho hd
    obtain ⟨n, rfl⟩ : ∃ k, n = k + 1 := ⟨n - 1, by omega⟩
    have e := List.eq_nil_of_length_eq_zero hk
    rw [hL, mleft_some, e]
    refine pickAny_of (fun _ => ?_) (fun e he => by cases he)
    rw [← ho]
    congr 2
    symm
    refine List.filter_eq_self.2 fun p hp => ?_
    have : p.1 ∈ done := by
      refine Classical.byContradiction fun hc => ?_
      have : p ∈ leftL l done := List.mem_filter.2 ⟨hp, by simpa using hc⟩
      rw [e] at this; cases this
    rw [hd p hp this]; rfl
  | succ k ih =>
    intro l done n hk hn hnd ho hd
    obtain ⟨n, rfl⟩ : ∃ k, n = k + 1 := ⟨n - 1, by omega⟩
    rw [hL, mleft_some]
    refine pickAny_of (fun e => by rw [e] at hk; cases hk) (fun e he => ?_)
    obtain ⟨he1, he2⟩ := leftL_mem he
    have hlen := leftL_len hnd he
    cases hx : P e with
    | true =>
      rw [if_pos rfl]
      have hm : mdel (some l) e.1 = some (mdelL e.1 l) := rfl
      rw [hm]
      have e1 : leftL (mdelL e.1 l) (e.1 :: done) = leftL l (e.1 :: done) := by
        rw [del_filter hnd]
        unfold leftL
        rw [List.filter_filter]
        refine List.filter_congr fun p _ => ?_
        by_cases hp : p.1 = e.1 <;> simp [hp]
      refine ih _ _ n (by rw [e1]; omega) (by omega) (nodupK_del hnd) ?_ fun p hp hpd => ?_
      · rw [← ho, del_filter hnd, List.filter_filter]
        refine List.filter_congr fun p hp => ?_
        by_cases hpe : p.1 = e.1
        · rw [same_key hnd hp he1 hpe]; simp [hx]
        · simp [hpe]
      · rw [del_filter hnd, List.mem_filter] at hp
        have q2 : p.1 ≠ e.1 := by simpa using hp.2
        refine hd p hp.1 ?_
        rcases List.mem_cons.1 hpd with h | h
        · exact absurd h q2
        · exact h
    | false =>
      rw [if_neg (by simp)]
      refine ih _ _ n (by omega) (by omega) hnd ho fun p hp hpd => ?_
      rcases List.mem_cons.1 hpd with h | h
      · rw [same_key hnd hp he1 h]; exact hx
      · exact hd p hp h
def live (now : Int) (A : AT) : AT := A.filter fun p => !exS p.2 now
theorem begin_del (A : AT) (now : Int) (hn : nodupK A) (hl : A.length ≤ 1000) : maps_DeleteFunc_map_string_login_attempt_string_login_attempt__Logins_Begin_1 (some A) now = some (some (live now A)) := by
  unfold maps_DeleteFunc_map_string_login_attempt_string_login_attempt__Logins_Begin_1
  refine del_loop (fun p => exS p.2 now) (fun n m done => maps_DeleteFunc_map_string_login_attempt_string_login_attempt__Logins_Begin_1_L1 n m now done) (fun n m done => ?_) A A.length A [] fuel (by rw [leftL_nil]) (by unfold fuel; omega) hn rfl (fun p _ hp => by cases hp)
  simp only [maps_DeleteFunc_map_string_login_attempt_string_login_attempt__Logins_Begin_1_L1, maps_DeleteFunc_map_string_login_attempt_string_login_attempt__Logins_Begin_1_B2, login_Logins_Begin_1, expired_eq, Option.bind_some]
theorem open_loop (s : login_Logins) (A : AT) (hs : s.attempts = some A) (now : Int) (hnd : nodupK A) : ∀ (k : Nat) (done : List Str) (n : Nat) (c : Int), (leftL A done).length = k → k < n → 0 ≤ c → c + k ≤ 1000000 →
    login_Logins_Open_L1 n now c done s = some (c + ((live now (leftL A done)).length : Int)) := by
  intro k
  induction k with
  | zero =>
    intro done n c hk hn h0 h1
    obtain ⟨n, rfl⟩ : ∃ k, n = k + 1 := ⟨n - 1, by omega⟩
    have e := List.eq_nil_of_length_eq_zero hk
    unfold login_Logins_Open_L1
    rw [hs, mleft_some, e]
    refine pickAny_of (fun _ => ?_) (fun e he => by cases he)
    simp [live]
  | succ k ih =>
    intro done n c hk hn h0 h1
    obtain ⟨n, rfl⟩ : ∃ k, n = k + 1 := ⟨n - 1, by omega⟩
    unfold login_Logins_Open_L1
    rw [hs, mleft_some]
    refine pickAny_of (fun e => by rw [e] at hk; cases hk) (fun e he => ?_)
    have hlen := leftL_len hnd he
    have hp : (live now (leftL A done)).length = (live now (e :: leftL A (e.1 :: done))).length := ((leftL_perm hnd he).filter _).length_eq
    rw [expired_eq, Option.bind_some]
    unfold login_Logins_Open_B2
    have h2 : live now (e :: leftL A (e.1 :: done)) = if !exS e.2 now then e :: live now (leftL A (e.1 :: done)) else live now (leftL A (e.1 :: done)) := by unfold live; rw [List.filter_cons]
    rw [h2] at hp
    cases hx : exS e.2 now with
    | true =>
      rw [hx] at hp
      simp only [Bool.not_true, Bool.false_eq_true, if_false] at hp ⊢
      rw [ih _ n c (by omega) (by omega) (by omega) (by omega), hp]
    | false =>
      rw [hx] at hp
      simp only [Bool.not_false, if_true, List.length_cons] at hp ⊢
      rw [w64 (by omega) (by omega), ih _ n (c + 1) (by omega) (by omega) (by omega) (by omega), hp]
      congr 1; omega
theorem ready_eq (m : Int) (L : LL) (U : UL) (C : List (Str × Int)) (A : AT) : login_Logins_ready (stM m L U C A) = some true := rfl
theorem open_eq (m : Int) (L : LL) (U : UL) (C : List (Str × Int)) (A : AT) (now : Int) (hn : nodupK A) (hl : A.length ≤ 1000) : login_Logins_Open (stM m L U C A) now = some ((live now A).length : Int) := by
  unfold login_Logins_Open
  rw [ready_eq, Option.bind_some, if_neg (by simp), open_loop _ A rfl now hn A.length [] fuel 0 (by rw [leftL_nil]) (by unfold fuel; omega) (by omega) (by omega), leftL_nil, Int.zero_add]
def findE (A : AT) (id : Str) (now : Int) : Int := match mfind id A with | none => 6 | some a => if exS a now then 13 else 0
theorem find_none {m : Int} {L : LL} {U : UL} {C : List (Str × Int)} {A : AT} {id : Str} {now : Int} (h : findE A id now ≠ 0) : login_Logins_find (stM m L U C A) id now = some (⟨[], 0, []⟩, findE A id now) := by
  unfold login_Logins_find
  unfold findE at *
  rw [ready_eq, Option.bind_some, if_neg (by simp), Option.bind_some]
  rcases opt_cases (mfind id A) with e | ⟨a, e⟩
  · simp [mhas, mgetD, e]
  · simp only [e] at h
    cases hx : exS a now with
    | true => simp [mhas, mgetD, e, expired_eq, hx]
    | false => rw [hx] at h; simp at h
theorem find_some {m : Int} {L : LL} {U : UL} {C : List (Str × Int)} {A : AT} {id : Str} {now : Int} (h : findE A id now = 0) : ∃ a, mfind id A = some a ∧ exS a now = false ∧ login_Logins_find (stM m L U C A) id now = some (a, 0) := by
  unfold login_Logins_find
  unfold findE at *
  rcases opt_cases (mfind id A) with e | ⟨a, e⟩
  · rw [e] at h; simp at h
  · rw [e] at h
    simp only at h
    cases hx : exS a now with
    | true => rw [hx] at h; simp at h
    | false =>
      refine ⟨a, e, hx, ?_⟩
      rw [ready_eq, Option.bind_some, if_neg (by simp), Option.bind_some]
      simp [mhas, mgetD, e, expired_eq, hx]
theorem fuel_3 : ∃ n, fuel = n + 5 := ⟨fuel - 5, by unfold fuel; rfl⟩
def Fs : List (List Int) := [[], [1], [2], [1, 2], [2, 1]]
def prf (ps : List api_Proof) : Prop := ps.map (·.Factor) ∈ Fs
theorem prf_len {ps : List api_Proof} (h : prf ps) : ps.length ≤ 2 := by
  have : ps.length = (ps.map (·.Factor)).length := by simp
  rw [this]
  unfold prf Fs at h
  simp only [List.mem_cons, List.not_mem_nil, or_false] at h
  rcases h with h | h | h | h | h <;> rw [h] <;> simp
theorem w01 : IntKind.i64.wrap 1 = 1 := by decide
theorem w11 : IntKind.i64.wrap 2 = 2 := by decide
theorem has_eq (u : Str) (b : Int) {ps : List api_Proof} (h : ps.length ≤ 2) (f : Int) : login_attempt_has ⟨u, b, ps⟩ f = some (ps.any fun p => p.Factor == f) := by
  obtain ⟨n, hn⟩ := fuel_3
  unfold login_attempt_has slices_ContainsFunc_api_Proof_api_Proof__attempt_has_1 slices_IndexFunc_api_Proof_api_Proof__attempt_has_1
  rw [hn]
  rcases ps with _ | ⟨x, _ | ⟨y, _ | _⟩⟩
  · simp [slices_IndexFunc_api_Proof_api_Proof__attempt_has_1_L1]
  · by_cases hx : x.Factor = f <;> simp [slices_IndexFunc_api_Proof_api_Proof__attempt_has_1_L1, login_attempt_has_1, idx, w01, hx]
  · by_cases hx : x.Factor = f <;> by_cases hy : y.Factor = f <;> simp [slices_IndexFunc_api_Proof_api_Proof__attempt_has_1_L1, login_attempt_has_1, idx, w01, w11, hx, hy]
  · simp at h
theorem shas_eq {ps : List api_Proof} (h : ps.length ≤ 2) (f : Int) : strength_has ps f = some (ps.any fun p => p.Factor == f) := by
  obtain ⟨n, hn⟩ := fuel_3
  unfold strength_has slices_ContainsFunc_api_Proof_api_Proof__has_1 slices_IndexFunc_api_Proof_api_Proof__has_1
  rw [hn]
  rcases ps with _ | ⟨x, _ | ⟨y, _ | _⟩⟩
  · simp [slices_IndexFunc_api_Proof_api_Proof__has_1_L1]
  · by_cases hx : x.Factor = f <;> simp [slices_IndexFunc_api_Proof_api_Proof__has_1_L1, strength_has_1, idx, w01, hx]
  · by_cases hx : x.Factor = f <;> by_cases hy : y.Factor = f <;> simp [slices_IndexFunc_api_Proof_api_Proof__has_1_L1, strength_has_1, idx, w01, w11, hx, hy]
  · simp at h
theorem any_map (ps : List api_Proof) (f : Int) : (ps.any fun p => p.Factor == f) = (ps.map (·.Factor)).any (· == f) := by rw [List.any_map]; rfl
theorem level_eq {ps : List api_Proof} (h : prf ps) : strength_Level ps = some (ps.length : Int) := by
  have hl := prf_len h
  have e : (ps.length : Int) = ((ps.map (·.Factor)).length : Int) := by simp
  obtain ⟨n, hn⟩ := fuel_3
  unfold strength_Level strength_count strength_ordinary
  rw [hn, e]
  simp only [Option.bind_some, strength_count_L1, strength_count_B2, shas_eq hl, any_map]
  unfold prf Fs at h
  simp only [List.mem_cons, List.not_mem_nil, or_false] at h
  rcases h with h | h | h | h | h <;> rw [h] <;> rfl
theorem clone_eq {ps : List api_Proof} (h : ps.length ≤ 2) : slices_Clone_api_Proof_api_Proof ps = some ps := by
  unfold slices_Clone_api_Proof_api_Proof
  rw [chk_t (by unfold fitL; simp; omega)]; rfl
theorem prf_add {ps : List api_Proof} (h : prf ps) {f t : Int} (hf : f = 1 ∨ f = 2) (hn : (ps.any fun p => p.Factor == f) = false) : prf (ps ++ [⟨f, t⟩]) := by
  unfold prf Fs at *
  rw [any_map] at hn
  simp only [List.map_append, List.map_cons, List.map_nil]
  simp only [List.mem_cons, List.not_mem_nil, or_false] at h
  rcases hf with rfl | rfl <;> rcases h with h | h | h | h | h <;> rw [h] at hn ⊢ <;> simp at hn ⊢
structure Inv (L : LL) (U : UL) (A : AT) : Prop where
  lk : InvL L
  und : nodupK U
  ug : ∀ p ∈ U, fits p.2.verifier.Salt ∧ fits p.2.code
  ua : (mfind ann U).isSome = true
  nd : nodupK A
  len : A.length ≤ 256
  at_ : ∀ p ∈ A, prf p.2.proofs ∧ fits p.2.user
/-- what presenting a factor may do -/
def PR (m : Int) (L : LL) (U : UL) (C : List (Str × Int)) (A : AT) (id : Str) (f now e : Int) (s' : login_Logins) : Prop :=
  (findE A id now ≠ 0 ∧ e = findE A id now ∧ s' = stM m L U C A) ∨ (findE A id now = 0 ∧ ∃ a, mfind id A = some a ∧ exS a now = false ∧
    (((e = 12 ∨ e = 22) ∧ s' = stM m L U C A) ∨ (e = 11 ∧ s' = stM m (failL m 100 50 L a.user now) U C A) ∨
      (e = 0 ∧ (a.proofs.any fun p => p.Factor == f) = false ∧ ∃ L' C' t, (L' = L ∨ L' = mdelL a.user L) ∧ s' = stM m L' U C' (mputL id ⟨a.user, a.begun, a.proofs ++ [⟨f, t⟩]⟩ A))))
theorem byPw_eq (m : Int) {L : LL} {U : UL} (C : List (Str × Int)) {A : AT} (h : Inv L U A) (u pw : Str) (now : Int) (hp : fits pw) :
    login_Logins_byPassword (stM m L U C A) u pw now = some (false, stM m L U C A) ∨ login_Logins_byPassword (stM m L U C A) u pw now = some (true, stM m (mdelL u L) U C A) := by
  unfold login_Logins_byPassword
  rw [Option.bind_some]
  rcases opt_cases (mfind u U) with e | ⟨c, e⟩
  · refine .inl ?_
    simp [mhas, mgetD, e]
  · have hc := h.ug _ (mfind_mem e)
    have hk := secret_Check_eq c.verifier pw hc.1 hp
    cases hx : chkS c.verifier pw with
    | false => refine .inl ?_; rw [hx] at hk; simp [mhas, mgetD, e, hk]
    | true =>
      refine .inr ?_
      rw [hx] at hk
      simp only [mhas, mgetD, e, Option.getD_some, Option.isSome_some, Bool.not_true, Bool.false_eq_true, if_false, hk, Option.bind_some]
      rfl
theorem byCode_eq (m : Int) {L : LL} {U : UL} (C : List (Str × Int)) {A : AT} (h : Inv L U A) (u s : Str) (now : Int) (hp : fits s) :
    login_Logins_byCode (stM m L U C A) u s now = some (false, stM m L U C A) ∨ ∃ C', login_Logins_byCode (stM m L U C A) u s now = some (true, stM m L U C' A) := by
  unfold login_Logins_byCode
  rw [Option.bind_some]
  rcases opt_cases (mfind u U) with e | ⟨c, e⟩
  · refine .inl ?_
    simp [mhas, mgetD, e]
  · have hc := h.ug _ (mfind_mem e)
    by_cases hz : c.code = []
    · refine .inl ?_; simp [mhas, mgetD, e, hz]
    · obtain ⟨l, hl⟩ : ∃ l, login_Logins_last (stM m L U C A) u = some l := by
        unfold login_Logins_last
        rw [Option.bind_some]
        split <;> exact ⟨_, rfl⟩
      have hv := Otp.otp_VerifyAt_eq c.code l now 60 s hc.2 hp
      simp only [mhas, mgetD, e, Option.getD_some, Option.isSome_some, Bool.not_true, Bool.false_or, hl, hv, Option.bind_some, show (c.code == ([] : Str)) = false by simpa using hz, Bool.false_eq_true, if_false]
      by_cases h2 : ((Otp.atR c.code l now 60 s).2 != 0) = true
      · rw [if_pos h2]; exact .inl rfl
      · rw [if_neg h2]; exact .inr ⟨_, rfl⟩
theorem optC_some_eq {A B : Type} (a : A) (k0 : Option B) (k1 : A → Option B) : optC (some a) k0 k1 = k1 a := rfl
theorem present_pw (m : Int) {L : LL} {U : UL} (C : List (Str × Int)) {A : AT} (h : Inv L U A) (id pw : Str) (now : Int) (hp : fits pw) :
    ∃ e s', login_Logins_present__Logins_byPassword (stM m L U C A) id pw now 1 = some (e, s') ∧ PR m L U C A id 1 now e s' := by
  unfold login_Logins_present__Logins_byPassword
  by_cases hf : findE A id now = 0
  · obtain ⟨a, e1, e2, e3⟩ := find_some (m := m) (L := L) (U := U) (C := C) hf
    have ha : prf a.proofs ∧ fits a.user := h.at_ _ (mfind_mem e1)
    have hl : a.proofs.length ≤ 2 := prf_len ha.1
    have hh : login_attempt_has a 1 = _ := has_eq a.user a.begun hl 1
    simp only [e3, Option.bind_some, bne_self_eq_false, Bool.false_eq_true, if_false, hh]
    cases hx : (a.proofs.any fun p => p.Factor == 1) with
    | true => exact ⟨12, _, rfl, .inr ⟨hf, a, e1, e2, .inl ⟨.inl rfl, rfl⟩⟩⟩
    | false =>
      simp only [Bool.false_eq_true, if_false, optC_some_eq, locked_eq, Option.bind_some]
      cases hk : lockedS L a.user now with
      | true => exact ⟨22, _, rfl, .inr ⟨hf, a, e1, e2, .inl ⟨.inr rfl, rfl⟩⟩⟩
      | false =>
        simp only [Bool.false_eq_true, if_false]
        rcases byPw_eq m C h a.user pw now hp with hb | hb
        · simp only [hb, Option.bind_some, Bool.not_false, if_true, optC_some_eq, fail_eq m 100 50 h.lk a.user now ha.2]
          exact ⟨11, _, rfl, .inr ⟨hf, a, e1, e2, .inr (.inl ⟨rfl, rfl⟩)⟩⟩
        · simp only [hb, Option.bind_some, Bool.not_true, Bool.false_eq_true, if_false, clone_eq hl, clock_Add_eq]
          rw [chk_t (by unfold fitL; simp; omega), chk_t (show (some A : GMap Str login_attempt).isSome = true from rfl)]
          exact ⟨0, _, rfl, .inr ⟨hf, a, e1, e2, .inr (.inr ⟨rfl, hx, _, _, _, .inr rfl, rfl⟩)⟩⟩
  · have e3 := find_none (m := m) (L := L) (U := U) (C := C) hf
    refine ⟨findE A id now, stM m L U C A, ?_, .inl ⟨hf, rfl, rfl⟩⟩
    rw [e3, Option.bind_some, if_pos (by simpa using hf)]
theorem present_code (m : Int) {L : LL} {U : UL} (C : List (Str × Int)) {A : AT} (h : Inv L U A) (id pw : Str) (now : Int) (hp : fits pw) :
    ∃ e s', login_Logins_present__Logins_byCode (stM m L U C A) id pw now 2 = some (e, s') ∧ PR m L U C A id 2 now e s' := by
  unfold login_Logins_present__Logins_byCode
  by_cases hf : findE A id now = 0
  · obtain ⟨a, e1, e2, e3⟩ := find_some (m := m) (L := L) (U := U) (C := C) hf
    have ha : prf a.proofs ∧ fits a.user := h.at_ _ (mfind_mem e1)
    have hl : a.proofs.length ≤ 2 := prf_len ha.1
    have hh : login_attempt_has a 2 = _ := has_eq a.user a.begun hl 2
    simp only [e3, Option.bind_some, bne_self_eq_false, Bool.false_eq_true, if_false, hh]
    cases hx : (a.proofs.any fun p => p.Factor == 2) with
    | true => exact ⟨12, _, rfl, .inr ⟨hf, a, e1, e2, .inl ⟨.inl rfl, rfl⟩⟩⟩
    | false =>
      simp only [Bool.false_eq_true, if_false, optC_some_eq, locked_eq, Option.bind_some]
      cases hk : lockedS L a.user now with
      | true => exact ⟨22, _, rfl, .inr ⟨hf, a, e1, e2, .inl ⟨.inr rfl, rfl⟩⟩⟩
      | false =>
        simp only [Bool.false_eq_true, if_false]
        rcases byCode_eq m C h a.user pw now hp with hb | ⟨C', hb⟩
        · simp only [hb, Option.bind_some, Bool.not_false, if_true, optC_some_eq, fail_eq m 100 50 h.lk a.user now ha.2]
          exact ⟨11, _, rfl, .inr ⟨hf, a, e1, e2, .inr (.inl ⟨rfl, rfl⟩)⟩⟩
        · simp only [hb, Option.bind_some, Bool.not_true, Bool.false_eq_true, if_false, clone_eq hl, clock_Add_eq]
          rw [chk_t (by unfold fitL; simp; omega), chk_t (show (some A : GMap Str login_attempt).isSome = true from rfl)]
          exact ⟨0, _, rfl, .inr ⟨hf, a, e1, e2, .inr (.inr ⟨rfl, hx, _, _, _, .inl rfl, rfl⟩)⟩⟩
  · have e3 := find_none (m := m) (L := L) (U := U) (C := C) hf
    refine ⟨findE A id now, stM m L U C A, ?_, .inl ⟨hf, rfl, rfl⟩⟩
    rw [e3, Option.bind_some, if_pos (by simpa using hf)]
theorem pw_eq (m : Int) {L : LL} {U : UL} (C : List (Str × Int)) {A : AT} (h : Inv L U A) (id pw : Str) (now : Int) (hp : fits pw) :
    ∃ e s', login_Logins_Password (stM m L U C A) id pw now = some (e, s') ∧ PR m L U C A id 1 now e s' := by
  obtain ⟨e, s', h1, h2⟩ := present_pw m C h id pw now hp
  exact ⟨e, s', by unfold login_Logins_Password; rw [h1, Option.bind_some], h2⟩
theorem code_eq (m : Int) {L : LL} {U : UL} (C : List (Str × Int)) {A : AT} (h : Inv L U A) (id pw : Str) (now : Int) (hp : fits pw) :
    ∃ e s', login_Logins_Code (stM m L U C A) id pw now = some (e, s') ∧ PR m L U C A id 2 now e s' := by
  obtain ⟨e, s', h1, h2⟩ := present_code m C h id pw now hp
  exact ⟨e, s', by unfold login_Logins_Code; rw [h1, Option.bind_some], h2⟩
theorem inv_put {L : LL} {U : UL} {A : AT} (h : Inv L U A) {L' : LL} (hL : InvL L') {id : Str} {a : login_attempt} (hk : (mfind id A).isSome = true) (hg : prf a.proofs ∧ fits a.user) : Inv L' U (mputL id a A) := by
  refine ⟨hL, h.und, h.ug, h.ua, nodupK_put h.nd, ?_, fun p hp => ?_⟩
  · rw [len_put, if_pos hk]; exact h.len
  · rcases mem_put hp with rfl | hp
    · exact hg
    · exact h.at_ p hp
/-- what presenting leaves behind -/
theorem PR.good {m : Int} {L : LL} {U : UL} {C : List (Str × Int)} {A : AT} (h : Inv L U A) {id : Str} {f now e : Int} {s' : login_Logins} (hf : f = 1 ∨ f = 2) (p : PR m L U C A id f now e s') :
    ∃ L' C' A', s' = stM m L' U C' A' ∧ Inv L' U A' := by
  rcases p with ⟨_, _, rfl⟩ | ⟨_, a, e1, e2, ⟨_, rfl⟩ | ⟨_, rfl⟩ | ⟨_, hx, L', C', t, hL, rfl⟩⟩
  · exact ⟨_, _, _, rfl, h⟩
  · exact ⟨_, _, _, rfl, h⟩
  · exact ⟨_, _, _, rfl, invL_fail h.lk _ _ _ _ _, h.und, h.ug, h.ua, h.nd, h.len, h.at_⟩
  · have ha := h.at_ _ (mfind_mem e1)
    refine ⟨_, _, _, rfl, inv_put h ?_ (by rw [e1]; rfl) ⟨prf_add ha.1 hf hx, ha.2⟩⟩
    rcases hL with rfl | rfl
    · exact h.lk
    · exact invL_del h.lk _
theorem live_len (now : Int) (A : AT) : (live now A).length ≤ A.length := List.length_filter_le _ _
/-- Begin: what it may do -/
def BR (m : Int) (L : LL) (U : UL) (C : List (Str × Int)) (A : AT) (id u : Str) (now e : Int) (s' : login_Logins) : Prop :=
  (e ≠ 0 ∧ s' = stM m L U C A) ∨ (e = 0 ∧ word u = true ∧ (live now A).length < 256 ∧ s' = stM m L U C (mputL id ⟨u, lim now, []⟩ (live now A)))
theorem begin_eq (m : Int) {L : LL} {U : UL} (C : List (Str × Int)) {A : AT} (h : Inv L U A) (id u : Str) (now : Int) (hi : fits id) (hu : fits u) :
    ∃ e s', login_Logins_Begin (stM m L U C A) id u now = some (e, s') ∧ BR m L U C A id u now e s' := by
  have hl := h.len
  unfold login_Logins_Begin
  simp only [ready_eq, Option.bind_some, Bool.not_true, Bool.false_eq_true, if_false, fold_Word_eq id hi, fold_Word_eq u hu]
  cases h1 : word id with
  | false => exact ⟨5, _, rfl, .inl ⟨by decide, rfl⟩⟩
  | true =>
    cases h2 : word u with
    | false => exact ⟨5, _, rfl, .inl ⟨by decide, rfl⟩⟩
    | true =>
      simp only [Bool.not_true, Bool.false_eq_true, if_false, Option.bind_some, expired_eq]
      have hb : ∃ b, (if mhas (some A : GMap Str login_attempt) id = true then some (!exS (mgetD (some A : GMap Str login_attempt) id ⟨[], 0, []⟩) now) else some false) = some b := by split <;> exact ⟨_, rfl⟩
      obtain ⟨b, hb⟩ := hb
      rw [hb, Option.bind_some]
      cases b with
      | true => exact ⟨7, _, rfl, .inl ⟨by decide, rfl⟩⟩
      | false =>
        rw [if_neg (by simp), open_eq m L U C A now h.nd (by omega), Option.bind_some]
        by_cases h3 : (live now A).length ≥ 256
        · rw [if_pos (by simp; omega)]; exact ⟨3, _, rfl, .inl ⟨by decide, rfl⟩⟩
        · rw [if_neg (by simp; omega), begin_del A now h.nd (by omega), Option.bind_some, clock_Add_eq, addS_0, Option.bind_some, chk_t (show (some (live now A) : GMap Str login_attempt).isSome = true from rfl)]
          exact ⟨0, _, rfl, .inr ⟨rfl, h2, by omega, rfl⟩⟩
theorem prf_nil : prf [] := by unfold prf Fs; simp
theorem inv_live {L : LL} {U : UL} {A : AT} (h : Inv L U A) (now : Int) : Inv L U (live now A) :=
  ⟨h.lk, h.und, h.ug, h.ua, nodupK_filter h.nd, Nat.le_trans (live_len _ _) h.len, fun p hp => h.at_ p (List.mem_filter.1 hp).1⟩
theorem BR.good {m : Int} {L : LL} {U : UL} {C : List (Str × Int)} {A : AT} (h : Inv L U A) {id u : Str} {now e : Int} {s' : login_Logins} (p : BR m L U C A id u now e s') :
    ∃ A', s' = stM m L U C A' ∧ Inv L U A' := by
  rcases p with ⟨_, rfl⟩ | ⟨_, hw, hl, rfl⟩
  · exact ⟨_, rfl, h⟩
  · refine ⟨_, rfl, h.lk, h.und, h.ug, h.ua, nodupK_put (inv_live h now).nd, ?_, fun p hp => ?_⟩
    · rw [len_put]; split <;> omega
    · rcases mem_put hp with rfl | hp
      · exact ⟨prf_nil, word_fits hw⟩
      · exact (inv_live h now).at_ p hp
abbrev salt : Str := [115, 97, 108, 116]
theorem enroll_eq (m : Int) {L : LL} {U : UL} (C : List (Str × Int)) {A : AT} (h : Inv L U A) (u : Str) (v : api_Verifier) (code : Str) (hu : fits u) (hv : fits v.Salt) (hc : fits code) :
    ∃ e U', login_Logins_Enroll (stM m L U C A) u v code = some (e, stM m L U' C A) ∧ Inv L U' A := by
  unfold login_Logins_Enroll
  simp only [ready_eq, Option.bind_some, Bool.not_true, Bool.false_eq_true, if_false, fold_Word_eq u hu]
  cases h1 : word u with
  | false => exact ⟨5, U, rfl, h⟩
  | true =>
    simp only [Bool.not_true, Bool.false_eq_true, if_false, secret_Valid_eq v hv, Option.bind_some, fold_Clean_eq code hc]
    have hb : ∃ b, (Option.bind (if (!vldS v) = true then some true else Option.bind (if (!(code == ([] : Str))) = true then some (!clean code) else some false) fun z55 => some z55) fun z47 => some z47) = some b := by
      cases vldS v <;> cases (code == ([] : Str)) <;> exact ⟨_, rfl⟩
    obtain ⟨b, hb⟩ := hb
    rw [bind_id] at hb
    rw [hb, Option.bind_some]
    cases b with
    | true => exact ⟨4, U, rfl, h⟩
    | false =>
      rw [if_neg (by simp)]
      by_cases h3 : ((!mhas (some U : GMap Str login_credentials) u) && decide (mlen (some U : GMap Str login_credentials) ≥ 256)) = true
      · rw [if_pos h3]; exact ⟨3, U, rfl, h⟩
      · rw [if_neg h3, chk_t (show (some U : GMap Str login_credentials).isSome = true from rfl)]
        refine ⟨0, mputL u ⟨v, code⟩ U, rfl, h.lk, nodupK_put h.und, fun p hp => ?_, ?_, h.nd, h.len, h.at_⟩
        · rcases mem_put hp with rfl | hp
          · exact ⟨hv, hc⟩
          · exact h.ug p hp
        · rw [mfind_put]; split
          · rfl
          · exact h.ua
def FR (m : Int) (L : LL) (U : UL) (C : List (Str × Int)) (A : AT) (id : Str) (level now : Int) (r : Str × List api_Proof × Int × login_Logins) : Prop :=
  (r.1 = [] ∧ r.2.1 = [] ∧ (r.2.2.1 = 6 ∨ r.2.2.1 = 21 ∨ r.2.2.1 = 13) ∧ r.2.2.2 = stM m L U C A) ∨
    (∃ a, mfind id A = some a ∧ level ≤ (a.proofs.length : Int) ∧ r = (a.user, a.proofs, 0, stM m L U C (mdelL id A)))
theorem findE_or (A : AT) (id : Str) (now : Int) (h : findE A id now ≠ 0) : findE A id now = 6 ∨ findE A id now = 13 := by
  unfold findE at *
  rcases opt_cases (mfind id A) with e | ⟨a, e⟩
  · exact .inl (by simp only [e])
  · simp only [e] at h ⊢
    cases hx : exS a now with
    | true => exact .inr rfl
    | false => rw [hx] at h; simp at h
theorem finish_eq (m : Int) {L : LL} {U : UL} (C : List (Str × Int)) {A : AT} (h : Inv L U A) (id : Str) (level now : Int) :
    ∃ r, login_Logins_Finish (stM m L U C A) id level now = some r ∧ FR m L U C A id level now r := by
  unfold login_Logins_Finish
  by_cases hf : findE A id now = 0
  · obtain ⟨a, e1, e2, e3⟩ := find_some (m := m) (L := L) (U := U) (C := C) hf
    have ha : prf a.proofs ∧ fits a.user := h.at_ _ (mfind_mem e1)
    have hl : a.proofs.length ≤ 2 := prf_len ha.1
    simp only [e3, Option.bind_some, bne_self_eq_false, Bool.false_eq_true, if_false, level_eq ha.1, clone_eq hl]
    by_cases h4 : (a.proofs.length : Int) < level
    · rw [if_pos (decide_eq_true h4)]; exact ⟨_, rfl, .inl ⟨rfl, rfl, .inr (.inl rfl), rfl⟩⟩
    · rw [if_neg (by simpa using h4)]; exact ⟨_, rfl, .inr ⟨a, e1, by omega, rfl⟩⟩
  · have e3 := find_none (m := m) (L := L) (U := U) (C := C) hf
    rw [e3, Option.bind_some, if_pos (by simpa using hf)]
    refine ⟨_, rfl, .inl ⟨rfl, rfl, ?_, rfl⟩⟩
    rcases findE_or A id now hf with e | e
    · exact .inl e
    · exact .inr (.inr e)
theorem inv_del {L : LL} {U : UL} {A : AT} (h : Inv L U A) (id : Str) : Inv L U (mdelL id A) :=
  ⟨h.lk, h.und, h.ug, h.ua, nodupK_del h.nd, by have := len_del (k := id) h.nd; have := h.len; omega, fun p hp => h.at_ p (mem_del hp)⟩
theorem FR.good {m : Int} {L : LL} {U : UL} {C : List (Str × Int)} {A : AT} (h : Inv L U A) {id : Str} {level now : Int} {r : Str × List api_Proof × Int × login_Logins} (p : FR m L U C A id level now r) :
    ∃ A', r.2.2.2 = stM m L U C A' ∧ Inv L U A' := by
  rcases p with ⟨_, _, _, e⟩ | ⟨a, _, _, rfl⟩
  · exact ⟨A, e, h⟩
  · exact ⟨_, rfl, inv_del h id⟩
def Good (m : Int) (s : login_Logins) : Prop := ∃ L U C A, s = stM m L U C A ∧ Inv L U A
structure small (o : law39_Op) : Prop where
  i : o.ID.length ≤ 300
  u : o.User.length ≤ 300
  w : o.Word.length ≤ 300
  c : o.Code.length ≤ 300
  s : o.S.length ≤ 300
theorem fits300 {s : Str} (h : s.length ≤ 300) : fits s := by unfold fits; omega
theorem mak_salt (p : Str) (r : Int) : fits (makS p salt r).1.Salt := by
  unfold makS
  split
  · unfold fits; simp [zvS]
  · split <;> (unfold fits; simp [zvS])
theorem verifier_eq (o : law39_Op) (h : small o) : ∃ v, law39_verifier o = some v ∧ fits v.Salt := by
  refine ⟨_, ?_, mak_salt o.Word (gmax 0 (gmin o.Rounds 3))⟩
  unfold law39_verifier
  rw [secret_Make_eq _ _ _ (fits300 h.w) (by unfold fits; simp), Option.bind_some]
theorem typed_eq (o : law39_Op) (h : small o) : ∃ s, law39_typed o = some s ∧ fits s := by
  unfold law39_typed
  by_cases hl : (o.Level != 0) = true
  · rw [if_pos hl, Otp.otp_Counter_eq, Option.bind_some, Otp.otp_Code_eq _ _ (fits300 h.s), Option.bind_some]
    refine ⟨_, rfl, ?_⟩
    unfold Otp.codeR
    split
    · split
      · unfold fits; simp
      · unfold fits; rw [Otp.codeS_len]; omega
    · unfold fits; simp
  · rw [if_neg hl]; exact ⟨_, rfl, fits300 h.c⟩
theorem play_good {m : Int} {s : login_Logins} (hs : Good m s) (o : law39_Op) (ho : small o) : ∃ s', law39_play s o = some s' ∧ Good m s' := by
  obtain ⟨L, U, C, A, rfl, h⟩ := hs
  unfold law39_play
  split
  · obtain ⟨v, hv, hf⟩ := verifier_eq o ho
    obtain ⟨e, U', h1, h2⟩ := enroll_eq m C h o.User v o.Code (fits300 ho.u) hf (fits300 ho.c)
    rw [hv, Option.bind_some, h1, Option.bind_some]
    exact ⟨_, rfl, _, _, _, _, rfl, h2⟩
  split
  · obtain ⟨e, s', h1, h2⟩ := begin_eq m C h o.ID o.User o.Now (fits300 ho.i) (fits300 ho.u)
    obtain ⟨A', rfl, h3⟩ := h2.good h
    rw [h1, Option.bind_some]
    exact ⟨_, rfl, _, _, _, _, rfl, h3⟩
  split
  · obtain ⟨e, s', h1, h2⟩ := pw_eq m C h o.ID o.Word o.Now (fits300 ho.w)
    obtain ⟨L', C', A', rfl, h3⟩ := h2.good h (.inl rfl)
    rw [h1, Option.bind_some]
    exact ⟨_, rfl, _, _, _, _, rfl, h3⟩
  split
  · obtain ⟨c, hc, hf⟩ := typed_eq o ho
    obtain ⟨e, s', h1, h2⟩ := code_eq m C h o.ID c o.Now hf
    obtain ⟨L', C', A', rfl, h3⟩ := h2.good h (.inr rfl)
    rw [hc, Option.bind_some, h1, Option.bind_some]
    exact ⟨_, rfl, _, _, _, _, rfl, h3⟩
  split
  · obtain ⟨r, h1, h2⟩ := finish_eq m C h o.ID o.Level o.Now
    obtain ⟨A', e, h3⟩ := h2.good h
    rw [h1, Option.bind_some]
    exact ⟨_, rfl, _, _, _, _, e, h3⟩
  · exact ⟨_, rfl, _, _, _, _, rfl, h⟩
theorem few_loop (l : List law39_Op) (hf : fits l) : ∀ (r : List law39_Op) (i n : Nat), l.drop i = r → i ≤ l.length → r.length < n → (∀ o ∈ l.take i, small o) →
    law39_few_L1 n l (i : Int) = some false ∨ (law39_few_L1 n l (i : Int) = some true ∧ l.length ≤ 20 ∧ ∀ o ∈ l, small o) := by
  unfold fits at hf
  intro r
  induction r with
  | nil =>
    intro i n hd hi hn ht
    obtain ⟨n, rfl⟩ : ∃ k, n = k + 1 := ⟨n - 1, by simp at hn; omega⟩
    have hl := drop_nil hd
    unfold law39_few_L1
    rw [if_neg (by simp; omega)]
    rw [List.take_of_length_le hl] at ht
    by_cases h : l.length ≤ 20
    · exact .inr ⟨by simp; omega, h, ht⟩
    · exact .inl (by simp; omega)
  | cons o r ih =>
    intro i n hd hi hn ht
    obtain ⟨n, rfl⟩ : ∃ k, n = k + 1 := ⟨n - 1, by simp at hn; omega⟩
    obtain ⟨h1, h2, h3⟩ := drop_more hd
    have hlt := drop_lt hd
    unfold law39_few_L1
    rw [if_pos (by simp; omega), idx_n, h2, Option.bind_some]
    by_cases hb : o.ID.length > 300 ∨ o.User.length > 300 ∨ o.Word.length > 300 ∨ o.Code.length > 300 ∨ o.S.length > 300
    · rw [if_pos (by simp; omega)]; exact .inl rfl
    · rw [if_neg (by simp; omega), w64n (show i < 9223372036854775807 by omega)]
      refine ih (i + 1) n h3 (by omega) (by simp at hn; omega) fun s hs => ?_
      rw [take_more hd] at hs
      rcases List.mem_append.1 hs with hs | hs
      · exact ht s hs
      · simp at hs; subst hs; exact ⟨by omega, by omega, by omega, by omega, by omega⟩
theorem few_gate (l : List law39_Op) (hf : fits l) : law39_few l = some false ∨ (law39_few l = some true ∧ l.length ≤ 20 ∧ ∀ o ∈ l, small o) :=
  few_loop l hf l 0 fuel rfl (by omega) (fuel_pos hf) (by simp)
abbrev sw : Str := [115, 101, 99, 114, 101, 116, 119, 111, 114, 100]
abbrev seed : Str := [115, 101, 101, 100]
def v0 : api_Verifier := (makS sw salt 1).1
def U0 : UL := [(ann, ⟨v0, seed⟩)]
theorem ann256 : law39_ann 256 = some (some (stM 256 [] U0 [] [])) := by kernel_rfl
theorem inv0 : Inv [] U0 [] := ⟨invL_nil, by simp [nodupK, U0], fun p hp => by
  simp [U0] at hp; subst hp; exact ⟨mak_salt _ _, by unfold fits; simp⟩, rfl, nodupK_nil, by simp, fun p hp => by cases hp⟩
theorem finish_gone {m : Int} {L : LL} {U : UL} {C : List (Str × Int)} {A : AT} {id : Str} {now : Int} (h : findE A id now = 6) (level : Int) : login_Logins_Finish (stM m L U C A) id level now = some ([], [], 6, stM m L U C A) := by
  have e3 := find_none (m := m) (L := L) (U := U) (C := C) (A := A) (id := id) (now := now) (by rw [h]; decide)
  unfold login_Logins_Finish
  rw [e3, Option.bind_some, h]; rfl
theorem pw_gone {m : Int} {L : LL} {U : UL} {C : List (Str × Int)} {A : AT} {id : Str} {now : Int} (h : findE A id now = 6) (pw : Str) : login_Logins_Password (stM m L U C A) id pw now = some (6, stM m L U C A) := by
  have e3 := find_none (m := m) (L := L) (U := U) (C := C) (A := A) (id := id) (now := now) (by rw [h]; decide)
  unfold login_Logins_Password login_Logins_present__Logins_byPassword
  rw [e3, Option.bind_some, h]; rfl
theorem findE_none {A : AT} {id : Str} {now : Int} (h : mfind id A = none) : findE A id now = 6 := by unfold findE; simp only [h]
abbrev first : Str := [102, 105, 114, 115, 116]
theorem prf_two {ps : List api_Proof} (h : prf ps) (h2 : ps.length = 2) : ∃ x y, ps = [x, y] ∧ (x.Factor == y.Factor) = false := by
  rcases ps with _ | ⟨x, _ | ⟨y, _ | _⟩⟩ <;> simp at h2
  refine ⟨x, y, rfl, ?_⟩
  unfold prf Fs at h
  simp only [List.mem_cons, List.not_mem_nil, or_false, List.map_cons, List.map_nil, List.cons.injEq, and_true] at h
  rcases h with h | h | h | h | h
  · simp at h
  · simp at h
  · simp at h
  · rw [h.1, h.2]; rfl
  · rw [h.1, h.2]; rfl
theorem strength_end (l : List law39_Op) (n : Nat) (i : Int) (hi : ¬ i < (l.length : Int)) (x0 : Int) (x1 x2 x3 x4 x5 : Str) (x6 x7 x8 : Int) {s : login_Logins} (hs : Good 256 s) :
    law39_LoginStrength_L1 (n + 1) l x0 x1 x2 x3 x4 x5 x6 x7 x8 s i = some true := by
  obtain ⟨L, U, C, A, rfl, h⟩ := hs
  unfold law39_LoginStrength_L1
  rw [if_neg (by simpa using hi)]
  obtain ⟨r, h1, h2⟩ := finish_eq 256 C h first x6 299
  rw [h1, Option.bind_some]
  rcases h2 with ⟨e1, e2, e3, e4⟩ | ⟨a, e1, e2, rfl⟩
  · rcases e3 with e3 | e3 | e3 <;> simp [e1, e2, e3, alive39]
  · have ha : prf a.proofs ∧ fits a.user := h.at_ _ (mfind_mem e1)
    have hl : a.proofs.length ≤ 2 := prf_len ha.1
    have hg : findE (mdelL first A) first 299 = 6 := findE_none (by rw [mfind_del h.nd, if_pos rfl])
    have c1 : (decide ((a.proofs.length : Int) < x6) || decide ((a.proofs.length : Int) > 2) || ((a.proofs.length : Int) != (a.proofs.length : Int))) = false := by simp; omega
    simp only [bne_self_eq_false, Bool.false_eq_true, if_false, level_eq ha.1, Option.bind_some] at c1 ⊢
    rw [if_neg (by rw [c1]; simp)]
    have c2 : (if ((a.proofs.length : Int) == 2) = true then (idx a.proofs 0).bind fun y202 => (idx a.proofs 1).bind fun y209 => some (y202.Factor == y209.Factor) else some false) = some false := by
      by_cases h2 : a.proofs.length = 2
      · obtain ⟨x, y, e, hxy⟩ := prf_two ha.1 h2
        rw [e]; simp only [List.length_cons, List.length_nil]; simpa [idx] using hxy
      · rw [if_neg (by simp; omega)]
    rw [c2, Option.bind_some, Option.bind_some, if_neg (by simp), finish_gone hg, Option.bind_some, pw_gone hg]
    simp [alive39]
theorem strength_loop (l : List law39_Op) (hl : l.length ≤ 20) (hs : ∀ o ∈ l, small o) (x0 : Int) (x1 x2 x3 x4 x5 : Str) (x6 x7 x8 : Int) : ∀ (r : List law39_Op) (i n : Nat) (s : login_Logins), l.drop i = r → r.length < n → Good 256 s →
    law39_LoginStrength_L1 n l x0 x1 x2 x3 x4 x5 x6 x7 x8 s (i : Int) = some true := by
  intro r
  induction r with
  | nil =>
    intro i n s hd hn hg
    obtain ⟨n, rfl⟩ : ∃ k, n = k + 1 := ⟨n - 1, by simp at hn; omega⟩
    have := drop_nil hd
    exact strength_end l n i (by omega) x0 x1 x2 x3 x4 x5 x6 x7 x8 hg
  | cons o r ih =>
    intro i n s hd hn hg
    obtain ⟨n, rfl⟩ : ∃ k, n = k + 1 := ⟨n - 1, by simp at hn; omega⟩
    obtain ⟨h1, h2, h3⟩ := drop_more hd
    have hlt := drop_lt hd
    obtain ⟨s', p1, p2⟩ := play_good hg o (hs o (List.mem_of_getElem? h2))
    unfold law39_LoginStrength_L1
    rw [if_pos (by simp; omega), idx_n, h2, Option.bind_some, p1, Option.bind_some, w64n (show i < 9223372036854775807 by omega)]
    exact ih (i + 1) n s' h3 (by simp at hn; omega) p2
theorem strength_true (l : List law39_Op) (x : law39_Op) (hf : fits l) : law39_LoginStrength l x = some true := by
  unfold law39_LoginStrength
  rcases few_gate l hf with h | ⟨h, hl, hs⟩
  · rw [h]; simp [alive39]
  · rw [h, Option.bind_some, if_neg (by simp)]
    have hx := few_gate [x] (by unfold fits; simp)
    rcases hx with h2 | ⟨h2, _, _⟩
    · rw [h2]; simp [alive39]
    · rw [h2, ann256]
      obtain ⟨e, s', h3, h4⟩ := begin_eq 256 [] inv0 first ann 0 (by unfold fits; simp) (by unfold fits; simp)
      obtain ⟨A', rfl, h5⟩ := h4.good inv0
      simp only [Option.bind_some, Bool.not_true, Bool.false_eq_true, if_false, optC_some_eq, h3]
      exact strength_loop l hl hs _ _ _ _ _ _ _ _ _ l 0 fuel _ rfl (fuel_big (by omega)) ⟨_, _, _, _, rfl, h5⟩
end Go.KW.S
