/- Own work: a part of the proofs of this seat. -/
import Derived.Test.YtkhodjenbganfaaGreatDoorKwP40a
set_option linter.unusedVariables false
set_option linter.unusedSimpArgs false
namespace Go.KW.S
open Go Go.KW
abbrev AT := List (Str × login_attempt)
abbrev UL := List (Str × login_credentials)
abbrev stM (m : Int × Int) (L : LL) (U : UL) (C : List (Str × Int)) (A : AT) : login_Logins := ⟨some ⟨m.1, 100, m.2, some L⟩, some U, some C, some A⟩
def exS (a : login_attempt) (now : Int) : Bool := decide (lim now - lim a.begun ≥ 300)
theorem expired_eq (a : login_attempt) (now : Int) : login_attempt_expired a now = some (exS a now) := by
 unfold login_attempt_expired clock_Sub exS
 have h1 := lim_range now
 have h2 := lim_range a.begun
 have e : ∀ t, clock_limited t = some (lim t) := fun t => rfl
 rw [e, e, Option.bind_some, Option.bind_some, Option.bind_some, w64 (by omega) (by omega)]
theorem same_key {V : Type} {l : List (Str × V)} (hn : nodupK l) {p e : Str × V} (hp : p ∈ l) (he : e ∈ l) (h : p.1 = e.1) : p = e := by
 have h1 := mfind_of_mem hn (show (p.1, p.2) ∈ l from hp)
 have h2 := mfind_of_mem hn (show (e.1, e.2) ∈ l from he)
 rw [h, h2] at h1
 exact Prod.ext h (Option.some.inj h1).symm
theorem del_loop {V : Type} [DecidableEq V] (P : Str × V → Bool) (L : Nat → GMap Str V → List Str → Option (GMap Str V))
  (hL : ∀ n m done, L (n + 1) m done = pickAny (mleft m done) (some m) fun e => if P e = true then L n (mdel m e.1) (e.1 :: done) else L n m (e.1 :: done))
  (l0 : List (Str × V)) : ∀ (k : Nat) (l : List (Str × V)) (done : List Str) (n : Nat), (leftL l done).length = k → k < n → nodupK l → l.filter (fun p => !P p) = l0.filter (fun p => !P p) → (∀ p ∈ l, p.1 ∈ done → P p = false) →
   L n (some l) done = some (some (l0.filter fun p => !P p)) := by
 intro k
 induction k with
 | zero =>
  intro l done n hk hn hnd ho hd
  obtain ⟨n, rfl⟩ : ∃ k, n = k + 1 := ⟨n - 1, by omega⟩
  have e := List.eq_nil_of_length_eq_zero hk
  rw [hL, mleft_some, e]
  refine pickAny_of (fun _ => ?_) (fun e he => by cases he)
  rw [← ho]
  congr 2
  symm
  refine List.filter_eq_self.2 fun p hp => ?_
  have : p.1 ∈ done := by
   refine Classical.byContradiction fun hc => ?_
   have : p ∈ leftL l done := List.mem_filter.2 ⟨hp, by simpa using hc⟩
   rw [e] at this; cases this
  rw [hd p hp this]; rfl
 | succ k ih =>
  intro l done n hk hn hnd ho hd
  obtain ⟨n, rfl⟩ : ∃ k, n = k + 1 := ⟨n - 1, by omega⟩
  rw [hL, mleft_some]
  refine pickAny_of (fun e => by rw [e] at hk; cases hk) (fun e he => ?_)
  obtain ⟨he1, he2⟩ := leftL_mem he
  have hlen := leftL_len hnd he
  cases hx : P e with
  | true =>
   rw [if_pos rfl]
   have hm : mdel (some l) e.1 = some (mdelL e.1 l) := rfl
   rw [hm]
   have e1 : leftL (mdelL e.1 l) (e.1 :: done) = leftL l (e.1 :: done) := by
    rw [del_filter hnd]
    unfold leftL
    rw [List.filter_filter]
    refine List.filter_congr fun p _ => ?_
    by_cases hp : p.1 = e.1 <;> simp [hp]
   refine ih _ _ n (by rw [e1]; omega) (by omega) (nodupK_del hnd) ?_ fun p hp hpd => ?_
   ·rw [← ho, del_filter hnd, List.filter_filter]
    refine List.filter_congr fun p hp => ?_
    by_cases hpe : p.1 = e.1
    ·rw [same_key hnd hp he1 hpe]; simp [hx]
    ·simp [hpe]
   ·rw [del_filter hnd, List.mem_filter] at hp
    have q2 : p.1 ≠ e.1 := by simpa using hp.2
    refine hd p hp.1 ?_
    rcases List.mem_cons.1 hpd with h | h
    ·exact absurd h q2
    ·exact h
  | false =>
   rw [if_neg (by simp)]
   refine ih _ _ n (by omega) (by omega) hnd ho fun p hp hpd => ?_
   rcases List.mem_cons.1 hpd with h | h
   ·rw [same_key hnd hp he1 h]; exact hx
   ·exact hd p hp h
def live (now : Int) (A : AT) : AT := A.filter fun p => !exS p.2 now
def others (u : Str) (A : AT) : AT := A.filter fun p => !(p.2.user == u)
theorem begin_del (A : AT) (now : Int) (hn : nodupK A) (hl : A.length ≤ 1000) : maps_DeleteFunc_map_string_login_attempt_string_login_attempt__Logins_Begin_1 (some A) now = some (some (live now A)) := by
 unfold maps_DeleteFunc_map_string_login_attempt_string_login_attempt__Logins_Begin_1
 refine del_loop (fun p => exS p.2 now) (fun n m done => maps_DeleteFunc_map_string_login_attempt_string_login_attempt__Logins_Begin_1_L1 n m now done) (fun n m done => ?_) A A.length A [] fuel (by rw [leftL_nil]) (by unfold fuel; omega) hn rfl (fun p _ hp => by cases hp)
 simp only [maps_DeleteFunc_map_string_login_attempt_string_login_attempt__Logins_Begin_1_L1, maps_DeleteFunc_map_string_login_attempt_string_login_attempt__Logins_Begin_1_B2, login_Logins_Begin_1, expired_eq, Option.bind_some]
theorem drop_del (A : AT) (u : Str) (hn : nodupK A) (hl : A.length ≤ 1000) : maps_DeleteFunc_map_string_login_attempt_string_login_attempt__Logins_Drop_1 (some A) u = some (some (others u A)) := by
 unfold maps_DeleteFunc_map_string_login_attempt_string_login_attempt__Logins_Drop_1
 refine del_loop (fun p => p.2.user == u) (fun n m done => maps_DeleteFunc_map_string_login_attempt_string_login_attempt__Logins_Drop_1_L1 n m u done) (fun n m done => ?_) A A.length A [] fuel (by rw [leftL_nil]) (by unfold fuel; omega) hn rfl (fun p _ hp => by cases hp)
 simp only [maps_DeleteFunc_map_string_login_attempt_string_login_attempt__Logins_Drop_1_L1, maps_DeleteFunc_map_string_login_attempt_string_login_attempt__Logins_Drop_1_B2, login_Logins_Drop_1, Option.bind_some]
theorem open_loop (s : login_Logins) (A : AT) (hs : s.attempts = some A) (now : Int) (hnd : nodupK A) : ∀ (k : Nat) (done : List Str) (n : Nat) (c : Int), (leftL A done).length = k → k < n → 0 ≤ c → c + k ≤ 1000000 →
  login_Logins_Open_L1 n now c done s = some (c + ((live now (leftL A done)).length : Int)) := by
 intro k
 induction k with
 | zero =>
  intro done n c hk hn h0 h1
  obtain ⟨n, rfl⟩ : ∃ k, n = k + 1 := ⟨n - 1, by omega⟩
  have e := List.eq_nil_of_length_eq_zero hk
  unfold login_Logins_Open_L1
  rw [hs, mleft_some, e]
  refine pickAny_of (fun _ => ?_) (fun e he => by cases he)
  simp [live]
 | succ k ih =>
  intro done n c hk hn h0 h1
  obtain ⟨n, rfl⟩ : ∃ k, n = k + 1 := ⟨n - 1, by omega⟩
  unfold login_Logins_Open_L1
  rw [hs, mleft_some]
  refine pickAny_of (fun e => by rw [e] at hk; cases hk) (fun e he => ?_)
  have hlen := leftL_len hnd he
  have hp : (live now (leftL A done)).length = (live now (e :: leftL A (e.1 :: done))).length := ((leftL_perm hnd he).filter _).length_eq
  rw [expired_eq, Option.bind_some]
  unfold login_Logins_Open_B2
  have h2 : live now (e :: leftL A (e.1 :: done)) = if !exS e.2 now then e :: live now (leftL A (e.1 :: done)) else live now (leftL A (e.1 :: done)) := by unfold live; rw [List.filter_cons]
  rw [h2] at hp
  cases hx : exS e.2 now with
  | true =>
   rw [hx] at hp
   simp only [Bool.not_true, Bool.false_eq_true, if_false] at hp ⊢
   rw [ih _ n c (by omega) (by omega) (by omega) (by omega), hp]
  | false =>
   rw [hx] at hp
   simp only [Bool.not_false, if_true, List.length_cons] at hp ⊢
   rw [w64 (by omega) (by omega), ih _ n (c + 1) (by omega) (by omega) (by omega) (by omega), hp]
   congr 1; omega
theorem ready_eq (m : Int × Int) (L : LL) (U : UL) (C : List (Str × Int)) (A : AT) : login_Logins_ready (stM m L U C A) = some true := rfl
theorem open_eq (m : Int × Int) (L : LL) (U : UL) (C : List (Str × Int)) (A : AT) (now : Int) (hn : nodupK A) (hl : A.length ≤ 1000) : login_Logins_Open (stM m L U C A) now = some ((live now A).length : Int) := by
 unfold login_Logins_Open
 rw [ready_eq, Option.bind_some, if_neg (by simp), open_loop _ A rfl now hn A.length [] fuel 0 (by rw [leftL_nil]) (by unfold fuel; omega) (by omega) (by omega), leftL_nil, Int.zero_add]
def findE (A : AT) (id : Str) (now : Int) : Int := match mfind id A with | none => 6 | some a => if exS a now then 13 else 0
theorem find_none {m : Int × Int} {L : LL} {U : UL} {C : List (Str × Int)} {A : AT} {id : Str} {now : Int} (h : findE A id now ≠ 0) : login_Logins_find (stM m L U C A) id now = some (⟨[], 0, []⟩, findE A id now) := by
 unfold login_Logins_find
 unfold findE at *
 rw [ready_eq, Option.bind_some, if_neg (by simp), Option.bind_some]
 rcases opt_cases (mfind id A) with e | ⟨a, e⟩
 ·simp [mhas, mgetD, e]
 ·simp only [e] at h
  cases hx : exS a now with
  | true => simp [mhas, mgetD, e, expired_eq, hx]
  | false => rw [hx] at h; simp at h
theorem find_some {m : Int × Int} {L : LL} {U : UL} {C : List (Str × Int)} {A : AT} {id : Str} {now : Int} (h : findE A id now = 0) : ∃ a, mfind id A = some a ∧ exS a now = false ∧ login_Logins_find (stM m L U C A) id now = some (a, 0) := by
 unfold login_Logins_find
 unfold findE at *
 rcases opt_cases (mfind id A) with e | ⟨a, e⟩
 ·rw [e] at h; simp at h
 ·rw [e] at h
  simp only at h
  cases hx : exS a now with
  | true => rw [hx] at h; simp at h
  | false =>
   refine ⟨a, e, hx, ?_⟩
   rw [ready_eq, Option.bind_some, if_neg (by simp), Option.bind_some]
   simp [mhas, mgetD, e, expired_eq, hx]
theorem fuel_3 : ∃ n, fuel = n + 5 := ⟨fuel - 5, by unfold fuel; rfl⟩
def Fs : List (List Int) := [[], [1], [2], [1, 2], [2, 1]]
def prf (ps : List api_Proof) : Prop := ps.map (·.Factor) ∈ Fs
theorem prf_len {ps : List api_Proof} (h : prf ps) : ps.length ≤ 2 := by
 have : ps.length = (ps.map (·.Factor)).length := by simp
 rw [this]
 unfold prf Fs at h
 simp only [List.mem_cons, List.not_mem_nil, or_false] at h
 rcases h with h | h | h | h | h <;> rw [h] <;> simp
theorem w01 : IntKind.i64.wrap 1 = 1 := by decide
theorem w11 : IntKind.i64.wrap 2 = 2 := by decide
theorem has_eq (u : Str) (b : Int) {ps : List api_Proof} (h : ps.length ≤ 2) (f : Int) : login_attempt_has ⟨u, b, ps⟩ f = some (ps.any fun p => p.Factor == f) := by
 obtain ⟨n, hn⟩ := fuel_3
 unfold login_attempt_has slices_ContainsFunc_api_Proof_api_Proof__attempt_has_1 slices_IndexFunc_api_Proof_api_Proof__attempt_has_1
 rw [hn]
 rcases ps with _ | ⟨x, _ | ⟨y, _ | _⟩⟩
 ·simp [slices_IndexFunc_api_Proof_api_Proof__attempt_has_1_L1]
 ·by_cases hx : x.Factor = f <;> simp [slices_IndexFunc_api_Proof_api_Proof__attempt_has_1_L1, login_attempt_has_1, idx, w01, hx]
 ·by_cases hx : x.Factor = f <;> by_cases hy : y.Factor = f <;> simp [slices_IndexFunc_api_Proof_api_Proof__attempt_has_1_L1, login_attempt_has_1, idx, w01, w11, hx, hy]
 ·simp at h
theorem shas_eq {ps : List api_Proof} (h : ps.length ≤ 2) (f : Int) : strength_has ps f = some (ps.any fun p => p.Factor == f) := by
 obtain ⟨n, hn⟩ := fuel_3
 unfold strength_has slices_ContainsFunc_api_Proof_api_Proof__has_1 slices_IndexFunc_api_Proof_api_Proof__has_1
 rw [hn]
 rcases ps with _ | ⟨x, _ | ⟨y, _ | _⟩⟩
 ·simp [slices_IndexFunc_api_Proof_api_Proof__has_1_L1]
 ·by_cases hx : x.Factor = f <;> simp [slices_IndexFunc_api_Proof_api_Proof__has_1_L1, strength_has_1, idx, w01, hx]
 ·by_cases hx : x.Factor = f <;> by_cases hy : y.Factor = f <;> simp [slices_IndexFunc_api_Proof_api_Proof__has_1_L1, strength_has_1, idx, w01, w11, hx, hy]
 ·simp at h
theorem any_map (ps : List api_Proof) (f : Int) : (ps.any fun p => p.Factor == f) = (ps.map (·.Factor)).any (· == f) := by rw [List.any_map]; rfl
theorem level_eq {ps : List api_Proof} (h : prf ps) : strength_Level ps = some (ps.length : Int) := by
 have hl := prf_len h
 have e : (ps.length : Int) = ((ps.map (·.Factor)).length : Int) := by simp
 obtain ⟨n, hn⟩ := fuel_3
 unfold strength_Level strength_count strength_ordinary
 rw [hn, e]
 simp only [Option.bind_some, strength_count_L1, strength_count_B2, shas_eq hl, any_map]
 unfold prf Fs at h
 simp only [List.mem_cons, List.not_mem_nil, or_false] at h
 rcases h with h | h | h | h | h <;> rw [h] <;> rfl
theorem clone_eq {ps : List api_Proof} (h : ps.length ≤ 2) : slices_Clone_api_Proof_api_Proof ps = some ps := by
 unfold slices_Clone_api_Proof_api_Proof
 rw [chk_t (by unfold fitL; simp; omega)]; rfl
theorem prf_add {ps : List api_Proof} (h : prf ps) {f t : Int} (hf : f = 1 ∨ f = 2) (hn : (ps.any fun p => p.Factor == f) = false) : prf (ps ++ [⟨f, t⟩]) := by
 unfold prf Fs at *
 rw [any_map] at hn
 simp only [List.map_append, List.map_cons, List.map_nil]
 simp only [List.mem_cons, List.not_mem_nil, or_false] at h
 rcases hf with rfl | rfl <;> rcases h with h | h | h | h | h <;> rw [h] at hn ⊢ <;> simp at hn ⊢
structure Inv (L : LL) (U : UL) (A : AT) : Prop where
 lk : InvL L
 und : nodupK U
 ug : ∀ p ∈ U, fits p.2.verifier.Salt ∧ fits p.2.code
 ua : True
 nd : nodupK A
 len : A.length ≤ 256
 at_ : ∀ p ∈ A, prf p.2.proofs ∧ fits p.2.user
def CG (C C' : List (Str × Int)) (u : Str) : Prop := C' = C ∨ ∃ n, C' = mputL u n C ∧ ∀ d, mfind u C = some d → d < n
def lastC (C : List (Str × Int)) (u : Str) : Int := (mfind u C).getD (-1)
theorem last_eq (m : Int × Int) (L : LL) (U : UL) (C : List (Str × Int)) (A : AT) (u : Str) : login_Logins_last (stM m L U C A) u = some (lastC C u) := by
 unfold login_Logins_last lastC
 rw [Option.bind_some]
 rcases opt_cases (mfind u C) with e | ⟨c, e⟩ <;> simp [mhas, mgetD, e]
def PR (m : Int × Int) (L : LL) (U : UL) (C : List (Str × Int)) (A : AT) (id : Str) (f now e : Int) (s' : login_Logins) : Prop :=
 (findE A id now ≠ 0 ∧ e = findE A id now ∧ s' = stM m L U C A) ∨ (findE A id now = 0 ∧ ∃ a, mfind id A = some a ∧ exS a now = false ∧
  (((e = 12 ∨ e = 22) ∧ s' = stM m L U C A) ∨ (e = 11 ∧ s' = stM m (failL m.1 100 m.2 L a.user now) U C A) ∨
   (e = 0 ∧ (a.proofs.any fun p => p.Factor == f) = false ∧ ∃ L' C' t, ((L' = L ∨ L' = mdelL a.user L) ∧ CG C C' a.user) ∧ s' = stM m L' U C' (mputL id ⟨a.user, a.begun, a.proofs ++ [⟨f, t⟩]⟩ A))))
theorem optC_some_eq {A B : Type} (a : A) (k0 : Option B) (k1 : A → Option B) : optC (some a) k0 k1 = k1 a := rfl
theorem inv_put {L : LL} {U : UL} {A : AT} (h : Inv L U A) {L' : LL} (hL : InvL L') {id : Str} {a : login_attempt} (hk : (mfind id A).isSome = true) (hg : prf a.proofs ∧ fits a.user) : Inv L' U (mputL id a A) := by
 refine ⟨hL, h.und, h.ug, h.ua, nodupK_put h.nd, ?_, fun p hp => ?_⟩
 ·rw [len_put, if_pos hk]; exact h.len
 ·rcases mem_put hp with rfl | hp
  ·exact hg
  ·exact h.at_ p hp
theorem PR.good {m : Int × Int} {L : LL} {U : UL} {C : List (Str × Int)} {A : AT} (h : Inv L U A) {id : Str} {f now e : Int} {s' : login_Logins} (hf : f = 1 ∨ f = 2) (p : PR m L U C A id f now e s') :
  ∃ L' C' A', s' = stM m L' U C' A' ∧ Inv L' U A' := by
 rcases p with ⟨_, _, rfl⟩ | ⟨_, a, e1, e2, ⟨_, rfl⟩ | ⟨_, rfl⟩ | ⟨_, hx, L', C', t, hL, rfl⟩⟩
 ·exact ⟨_, _, _, rfl, h⟩
 ·exact ⟨_, _, _, rfl, h⟩
 ·exact ⟨_, _, _, rfl, invL_fail h.lk _ _ _ _ _, h.und, h.ug, h.ua, h.nd, h.len, h.at_⟩
 ·have ha := h.at_ _ (mfind_mem e1)
  refine ⟨_, _, _, rfl, inv_put h ?_ (by rw [e1]; rfl) ⟨prf_add ha.1 hf hx, ha.2⟩⟩
  rcases hL.1 with rfl | rfl
  ·exact h.lk
  ·exact invL_del h.lk _
theorem live_len (now : Int) (A : AT) : (live now A).length ≤ A.length := List.length_filter_le _ _
def BR (m : Int × Int) (L : LL) (U : UL) (C : List (Str × Int)) (A : AT) (id u : Str) (now e : Int) (s' : login_Logins) : Prop :=
 (e ≠ 0 ∧ s' = stM m L U C A) ∨ (e = 0 ∧ word u = true ∧ (live now A).length < 256 ∧ s' = stM m L U C (mputL id ⟨u, lim now, []⟩ (live now A)))
theorem prf_nil : prf [] := by unfold prf Fs; simp
theorem inv_live {L : LL} {U : UL} {A : AT} (h : Inv L U A) (now : Int) : Inv L U (live now A) :=
 ⟨h.lk, h.und, h.ug, h.ua, nodupK_filter h.nd, Nat.le_trans (live_len _ _) h.len, fun p hp => h.at_ p (List.mem_filter.1 hp).1⟩
theorem BR.good {m : Int × Int} {L : LL} {U : UL} {C : List (Str × Int)} {A : AT} (h : Inv L U A) {id u : Str} {now e : Int} {s' : login_Logins} (p : BR m L U C A id u now e s') :
  ∃ A', s' = stM m L U C A' ∧ Inv L U A' := by
 rcases p with ⟨_, rfl⟩ | ⟨_, hw, hl, rfl⟩
 ·exact ⟨_, rfl, h⟩
 ·refine ⟨_, rfl, h.lk, h.und, h.ug, h.ua, nodupK_put (inv_live h now).nd, ?_, fun p hp => ?_⟩
  ·rw [len_put]; split <;> omega
  ·rcases mem_put hp with rfl | hp
   ·exact ⟨prf_nil, word_fits hw⟩
   ·exact (inv_live h now).at_ p hp
abbrev salt : Str := [115, 97, 108, 116]
def FR (m : Int × Int) (L : LL) (U : UL) (C : List (Str × Int)) (A : AT) (id : Str) (level now : Int) (r : Str × List api_Proof × Int × login_Logins) : Prop :=
 (r.1 = [] ∧ r.2.1 = [] ∧ (r.2.2.1 = 6 ∨ r.2.2.1 = 21 ∨ r.2.2.1 = 13) ∧ r.2.2.2 = stM m L U C A) ∨
  (∃ a, mfind id A = some a ∧ level ≤ (a.proofs.length : Int) ∧ r = (a.user, a.proofs, 0, stM m L U C (mdelL id A)))
theorem inv_del {L : LL} {U : UL} {A : AT} (h : Inv L U A) (id : Str) : Inv L U (mdelL id A) :=
 ⟨h.lk, h.und, h.ug, h.ua, nodupK_del h.nd, by have := len_del (k := id) h.nd; have := h.len; omega, fun p hp => h.at_ p (mem_del hp)⟩
theorem FR.good {m : Int × Int} {L : LL} {U : UL} {C : List (Str × Int)} {A : AT} (h : Inv L U A) {id : Str} {level now : Int} {r : Str × List api_Proof × Int × login_Logins} (p : FR m L U C A id level now r) :
  ∃ A', r.2.2.2 = stM m L U C A' ∧ Inv L U A' := by
 rcases p with ⟨_, _, _, e⟩ | ⟨a, _, _, rfl⟩
 ·exact ⟨A, e, h⟩
 ·exact ⟨_, rfl, inv_del h id⟩
structure small (o : law39_Op) : Prop where
 i : o.ID.length ≤ 300
 u : o.User.length ≤ 300
 w : o.Word.length ≤ 300
 c : o.Code.length ≤ 300
 s : o.S.length ≤ 300
theorem fits300 {s : Str} (h : s.length ≤ 300) : fits s := by unfold fits; omega
theorem mak_salt (p : Str) (r : Int) : fits (makS p salt r).1.Salt := by
 unfold makS
 split
 ·unfold fits; simp [zvS]
 ·split <;> (unfold fits; simp [zvS])
theorem verifier_eq (o : law39_Op) (h : small o) : ∃ v, law39_verifier o = some v ∧ fits v.Salt := by
 refine ⟨_, ?_, mak_salt o.Word (gmax 0 (gmin o.Rounds 3))⟩
 unfold law39_verifier
 rw [secret_Make_eq _ _ _ (fits300 h.w) (by unfold fits; simp), Option.bind_some]
theorem typed_eq (o : law39_Op) (h : small o) : ∃ s, law39_typed o = some s ∧ fits s := by
 unfold law39_typed
 by_cases hl : (o.Level != 0) = true
 ·rw [if_pos hl, Otp.otp_Counter_eq, Option.bind_some, Otp.otp_Code_eq _ _ (fits300 h.s), Option.bind_some]
  refine ⟨_, rfl, ?_⟩
  unfold Otp.codeR
  split
  ·split
   ·unfold fits; simp
   ·unfold fits; rw [Otp.codeS_len]; omega
  ·unfold fits; simp
 ·rw [if_neg hl]; exact ⟨_, rfl, fits300 h.c⟩
theorem few_loop (l : List law39_Op) (hf : fits l) : ∀ (r : List law39_Op) (i n : Nat), l.drop i = r → i ≤ l.length → r.length < n → (∀ o ∈ l.take i, small o) →
  law39_few_L1 n l (i : Int) = some false ∨ (law39_few_L1 n l (i : Int) = some true ∧ l.length ≤ 20 ∧ ∀ o ∈ l, small o) := by
 unfold fits at hf
 intro r
 induction r with
 | nil =>
  intro i n hd hi hn ht
  obtain ⟨n, rfl⟩ : ∃ k, n = k + 1 := ⟨n - 1, by simp at hn; omega⟩
  have hl := drop_nil hd
  unfold law39_few_L1
  rw [if_neg (by simp; omega)]
  rw [List.take_of_length_le hl] at ht
  by_cases h : l.length ≤ 20
  ·exact .inr ⟨by simp; omega, h, ht⟩
  ·exact .inl (by simp; omega)
 | cons o r ih =>
  intro i n hd hi hn ht
  obtain ⟨n, rfl⟩ : ∃ k, n = k + 1 := ⟨n - 1, by simp at hn; omega⟩
  obtain ⟨h1, h2, h3⟩ := drop_more hd
  have hlt := drop_lt hd
  unfold law39_few_L1
  rw [if_pos (by simp; omega), idx_n, h2, Option.bind_some]
  by_cases hb : o.ID.length > 300 ∨ o.User.length > 300 ∨ o.Word.length > 300 ∨ o.Code.length > 300 ∨ o.S.length > 300
  ·rw [if_pos (by simp; omega)]; exact .inl rfl
  ·rw [if_neg (by simp; omega), w64n (show i < 9223372036854775807 by omega)]
   refine ih (i + 1) n h3 (by omega) (by simp at hn; omega) fun s hs => ?_
   rw [take_more hd] at hs
   rcases List.mem_append.1 hs with hs | hs
   ·exact ht s hs
   ·simp at hs; subst hs; exact ⟨by omega, by omega, by omega, by omega, by omega⟩
theorem few_gate (l : List law39_Op) (hf : fits l) : law39_few l = some false ∨ (law39_few l = some true ∧ l.length ≤ 20 ∧ ∀ o ∈ l, small o) :=
 few_loop l hf l 0 fuel rfl (by omega) (fuel_pos hf) (by simp)
abbrev aref (p : Str × login_attempt) : ref39_attempt := ⟨p.1, p.2.user, p.2.begun, p.2.proofs⟩
abbrev uref (C : List (Str × Int)) (p : Str × login_credentials) : ref39_user := ⟨p.1, p.2.verifier, p.2.code, lastC C p.1⟩
abbrev rS (m : Int × Int) (L : LL) (U : UL) (C : List (Str × Int)) (A : AT) : ref39_Logins := ⟨some (rk m.1 100 m.2 L), U.map (uref C), A.map aref⟩
structure PI (L : LL) (U : UL) (C : List (Str × Int)) (A : AT) : Prop where
 lk : InvL L
 und : nodupK U
 ul : U.length ≤ 256
 ug : ∀ p ∈ U, fits p.2.verifier.Salt ∧ fits p.2.code
 cnd : nodupK C
 cu : ∀ u, mfind u U = none → mfind u C = none
 nd : nodupK A
 len : A.length ≤ 256
 at_ : ∀ p ∈ A, prf p.2.proofs ∧ fits p.2.user ∧ 0 ≤ p.2.begun ∧ p.2.begun ≤ 1099511627776
structure AtK {V : Type} (l : List (Str × V)) (u : Str) (k : Nat) (r : V) : Prop where
 get : l[k]? = some (u, r)
 pre : ∀ q ∈ l.take k, q.1 ≠ u
theorem AtK.lt {V : Type} {l : List (Str × V)} {u : Str} {k : Nat} {r : V} (h : AtK l u k r) : k < l.length := (List.getElem?_eq_some_iff.1 h.get).1
theorem AtK.mem {V : Type} {l : List (Str × V)} {u : Str} {k : Nat} {r : V} (h : AtK l u k r) : (u, r) ∈ l := List.mem_of_getElem? h.get
theorem AtK.ix {V W : Type} {l : List (Str × V)} {u : Str} {k : Nat} {r : V} (h : AtK l u k r) (f : Str × V → W) : idx (l.map f) (k : Int) = some (f (u, r)) := by rw [idx_n, List.getElem?_map, h.get]; rfl
theorem AtK.put {V W : Type} {l : List (Str × V)} {u : Str} {k : Nat} {r x : V} (h : AtK l u k r) (f : Str × V → W) : setAt (l.map f) (k : Int) (f (u, x)) = (mputL u x l).map f := by
 rw [put_set h.get h.pre, List.map_set]
 simp [setAt]
theorem AtK.uniq {V : Type} {l : List (Str × V)} {u : Str} {k : Nat} {r : V} (h : AtK l u k r) (hn : nodupK l) : mfind u l = some r := mfind_of_mem hn h.mem
theorem begun_eq {a : login_attempt} {now : Int} (h0 : 0 ≤ a.begun) (h1 : a.begun ≤ 1099511627776) (id : Str) : ref39_expired (aref (id, a)) now = some (exS a now) := by
 unfold ref39_expired ref04_Limit exS
 have h2 := lim_range now
 rw [Option.bind_some, lim_eq, w64 (by simp only; omega) (by simp only; omega)]
 have e : lim a.begun = a.begun := by rw [lim_val]; omega
 rw [e]
 congr 1
 rw [decide_eq_decide]
 simp only [aref]
 omega
theorem rfind39_loop (m : Int × Int) (L : LL) (U : UL) (C : List (Str × Int)) {A : AT} (hA : ∀ p ∈ A, 0 ≤ p.2.begun ∧ p.2.begun ≤ 1099511627776) (hl : A.length ≤ 1000) (id : Str) (now : Int) : ∀ (s : AT) (j n : Nat), A.drop j = s → s.length < n → (∀ q ∈ A.take j, q.1 ≠ id) →
  (∃ (k : Nat) (a : login_attempt), AtK A id k a ∧ ref39_find_L1 n (rS m L U C A) id now (j : Int) = some (if exS a now then (-1, 13) else ((k : Int), 0))) ∨ (ref39_find_L1 n (rS m L U C A) id now (j : Int) = some (-1, 6) ∧ ∀ q ∈ A, q.1 ≠ id) := by
 intro s
 induction s with
 | nil =>
  intro j n hd hn ht
  obtain ⟨n, rfl⟩ : ∃ k, n = k + 1 := ⟨n - 1, by simp at hn; omega⟩
  have := drop_nil hd
  rw [List.take_of_length_le this] at ht
  refine .inr ⟨?_, ht⟩
  simp only [ref39_find_L1, List.length_map, show ¬ ((j : Int) < A.length) by omega, decide_false, Bool.false_eq_true, if_false]
 | cons x s ih =>
  intro j n hd hn ht
  obtain ⟨n, rfl⟩ : ∃ k, n = k + 1 := ⟨n - 1, by simp at hn; omega⟩
  obtain ⟨h1, h2, h3⟩ := drop_more hd
  have hlt := drop_lt hd
  have hx0 := hA x (List.mem_of_getElem? h2)
  have hix : idx (A.map aref) (j : Int) = some (aref x) := by rw [idx_n, List.getElem?_map, h2]; rfl
  unfold ref39_find_L1
  rw [if_pos (by simp; omega)]
  simp only [hix, Option.bind_some, w64n (show j < 9223372036854775807 by omega)]
  by_cases hx : (x.1 == id) = true
  ·rw [if_pos hx]
   simp only [beq_iff_eq] at hx
   refine .inl ⟨j, x.2, ⟨by rw [h2, ← hx], ht⟩, ?_⟩
   have := begun_eq (now := now) hx0.1 hx0.2 x.1
   rw [show (x.1, x.2) = x from rfl] at this
   rw [this, Option.bind_some]
   split <;> rfl
  ·rw [if_neg hx]
   refine ih (j + 1) n h3 (by simp at hn; omega) fun q hq => ?_
   rw [take_more hd] at hq
   rcases List.mem_append.1 hq with hq | hq
   ·exact ht q hq
   ·simp at hq; subst hq
    simpa using hx
theorem rfind39 (m : Int × Int) {L : LL} {U : UL} {C : List (Str × Int)} {A : AT} (h : PI L U C A) (id : Str) (now : Int) :
  (∃ (k : Nat) (a : login_attempt), AtK A id k a ∧ mfind id A = some a ∧ ref39_find (rS m L U C A) id now = some (if exS a now then (-1, 13) else ((k : Int), 0))) ∨ (ref39_find (rS m L U C A) id now = some (-1, 6) ∧ mfind id A = none) := by
 have hl := h.len
 have e : ref39_find (rS m L U C A) id now = ref39_find_L1 fuel (rS m L U C A) id now 0 := rfl
 rw [e]
 rcases rfind39_loop m L U C (A := A) (fun p hp => (h.at_ p hp).2.2) (by omega) id now A 0 fuel rfl (fuel_big (by omega)) (by simp) with ⟨k, a, h1, h2⟩ | ⟨h1, h2⟩
 ·exact .inl ⟨k, a, h1, h1.uniq h.nd, h2⟩
 ·exact .inr ⟨h1, mfind_none.2 h2⟩
theorem rat39_loop (m : Int × Int) (L : LL) (U : UL) (C : List (Str × Int)) (A : AT) (hl : U.length ≤ 1000) (u : Str) : ∀ (s : UL) (j n : Nat), U.drop j = s → s.length < n → (∀ q ∈ U.take j, q.1 ≠ u) →
  (∃ (k : Nat) (a : login_credentials), AtK U u k a ∧ ref39_at_L1 n (rS m L U C A) u (j : Int) = some (k : Int)) ∨ (ref39_at_L1 n (rS m L U C A) u (j : Int) = some (-1) ∧ ∀ q ∈ U, q.1 ≠ u) := by
 intro s
 induction s with
 | nil =>
  intro j n hd hn ht
  obtain ⟨n, rfl⟩ : ∃ k, n = k + 1 := ⟨n - 1, by simp at hn; omega⟩
  have := drop_nil hd
  rw [List.take_of_length_le this] at ht
  refine .inr ⟨?_, ht⟩
  simp only [ref39_at_L1, List.length_map, show ¬ ((j : Int) < U.length) by omega, decide_false, Bool.false_eq_true, if_false]
 | cons x s ih =>
  intro j n hd hn ht
  obtain ⟨n, rfl⟩ : ∃ k, n = k + 1 := ⟨n - 1, by simp at hn; omega⟩
  obtain ⟨h1, h2, h3⟩ := drop_more hd
  have hlt := drop_lt hd
  have hix : idx (U.map (uref C)) (j : Int) = some (uref C x) := by rw [idx_n, List.getElem?_map, h2]; rfl
  unfold ref39_at_L1
  rw [if_pos (by simp; omega)]
  simp only [hix, Option.bind_some, w64n (show j < 9223372036854775807 by omega)]
  by_cases hx : (x.1 == u) = true
  ·rw [if_pos hx]
   simp only [beq_iff_eq] at hx
   exact .inl ⟨j, x.2, ⟨by rw [h2, ← hx], ht⟩, rfl⟩
  ·rw [if_neg hx]
   refine ih (j + 1) n h3 (by simp at hn; omega) fun q hq => ?_
   rw [take_more hd] at hq
   rcases List.mem_append.1 hq with hq | hq
   ·exact ht q hq
   ·simp at hq; subst hq
    simpa using hx
theorem rat39 (m : Int × Int) (L : LL) {U : UL} (C : List (Str × Int)) (A : AT) (hn : nodupK U) (hl : U.length ≤ 256) (u : Str) :
  (∃ (k : Nat) (c : login_credentials), AtK U u k c ∧ mfind u U = some c ∧ ref39_at (rS m L U C A) u = some (k : Int)) ∨ (ref39_at (rS m L U C A) u = some (-1) ∧ mfind u U = none) := by
 rcases rat39_loop m L U C A (by omega) u U 0 fuel rfl (fuel_big (by omega)) (by simp) with ⟨k, a, h1, h2⟩ | ⟨h1, h2⟩
 ·exact .inl ⟨k, a, h1, h1.uniq hn, h2⟩
 ·exact .inr ⟨h1, mfind_none.2 h2⟩
theorem live_drop (now : Int) {A : AT} {j : Nat} {x : Str × login_attempt} {s : AT} (hd : A.drop j = x :: s) : live now (A.take (j + 1)) = live now (A.take j) ++ (if !exS x.2 now then [x] else []) := by
 rw [take_more hd]
 unfold live
 rw [List.filter_append, List.filter_cons, List.filter_nil]
theorem ropen_loop (m : Int × Int) (L : LL) (U : UL) (C : List (Str × Int)) {A : AT} (hA : ∀ p ∈ A, 0 ≤ p.2.begun ∧ p.2.begun ≤ 1099511627776) (hl : A.length ≤ 1000) (now : Int) : ∀ (s : AT) (j n : Nat), A.drop j = s → s.length < n → j ≤ A.length →
  ref39_Logins_Open_L1 n (rS m L U C A) now ((live now (A.take j)).length : Int) (j : Int) = some ((live now A).length : Int) := by
 intro s
 induction s with
 | nil =>
  intro j n hd hn hj
  obtain ⟨n, rfl⟩ : ∃ k, n = k + 1 := ⟨n - 1, by simp at hn; omega⟩
  have := drop_nil hd
  unfold ref39_Logins_Open_L1
  rw [if_neg (by simp; omega), List.take_of_length_le this]
 | cons x s ih =>
  intro j n hd hn hj
  obtain ⟨n, rfl⟩ : ∃ k, n = k + 1 := ⟨n - 1, by simp at hn; omega⟩
  obtain ⟨h1, h2, h3⟩ := drop_more hd
  have hlt := drop_lt hd
  have hx0 := hA x (List.mem_of_getElem? h2)
  have hix : idx (A.map aref) (j : Int) = some (aref x) := by rw [idx_n, List.getElem?_map, h2]; rfl
  have ht := live_drop now hd
  have hll : (live now (A.take j)).length ≤ 1000 := Nat.le_trans (List.length_filter_le _ _) (by rw [List.length_take]; omega)
  have hb := begun_eq (now := now) hx0.1 hx0.2 x.1
  rw [show (x.1, x.2) = x from rfl] at hb
  have ih' := ih (j + 1) n h3 (by simp at hn; omega) (by omega)
  rw [ht, List.length_append] at ih'
  unfold ref39_Logins_Open_L1
  rw [if_pos (by simp; omega)]
  simp only [hix, Option.bind_some, hb, ref39_Logins_Open_B2, w64n (show j < 9223372036854775807 by omega)]
  cases he : exS x.2 now with
  | true => rw [he] at ih'; simpa using ih'
  | false =>
   rw [he] at ih'
   rw [if_pos (by rfl), w64 (by omega) (by omega)]
   simpa using ih'
theorem ropen39 (m : Int × Int) {L : LL} {U : UL} {C : List (Str × Int)} {A : AT} (h : PI L U C A) (now : Int) : ref39_Logins_Open (rS m L U C A) now = some ((live now A).length : Int) := by
 have hl := h.len
 have := ropen_loop m L U C (A := A) (fun p hp => (h.at_ p hp).2.2) (by omega) now A 0 fuel rfl (fuel_big (by omega)) (by omega)
 exact this
theorem rbegin_loop (m : Int × Int) (L : LL) (U : UL) (C : List (Str × Int)) {A : AT} (hA : ∀ p ∈ A, 0 ≤ p.2.begun ∧ p.2.begun ≤ 1099511627776) (hl : A.length ≤ 1000) (id u : Str) (now : Int) : ∀ (s : AT) (j n : Nat), A.drop j = s → s.length < n → j ≤ A.length →
  ref39_Logins_Begin_L1 n (rS m L U C A) id u now ((live now (A.take j)).map aref) (j : Int) = some (0, ⟨some (rk m.1 100 m.2 L), U.map (uref C), (live now A ++ [(id, (⟨u, lim now, []⟩ : login_attempt))]).map aref⟩) := by
 intro s
 induction s with
 | nil =>
  intro j n hd hn hj
  obtain ⟨n, rfl⟩ : ∃ k, n = k + 1 := ⟨n - 1, by simp at hn; omega⟩
  have := drop_nil hd
  have hll : (live now A).length ≤ 1000 := Nat.le_trans (List.length_filter_le _ _) hl
  unfold ref39_Logins_Begin_L1 ref04_Limit
  rw [if_neg (by simp; omega), List.take_of_length_le this, Option.bind_some, chk_t (by simp [fitL]; omega), lim_eq]
  simp [aref]
 | cons x s ih =>
  intro j n hd hn hj
  obtain ⟨n, rfl⟩ : ∃ k, n = k + 1 := ⟨n - 1, by simp at hn; omega⟩
  obtain ⟨h1, h2, h3⟩ := drop_more hd
  have hlt := drop_lt hd
  have hx0 := hA x (List.mem_of_getElem? h2)
  have hix : idx (A.map aref) (j : Int) = some (aref x) := by rw [idx_n, List.getElem?_map, h2]; rfl
  have ht := live_drop now hd
  have hll : (live now (A.take j)).length ≤ 1000 := Nat.le_trans (List.length_filter_le _ _) (by rw [List.length_take]; omega)
  have hb := begun_eq (now := now) hx0.1 hx0.2 x.1
  rw [show (x.1, x.2) = x from rfl] at hb
  have ih' := ih (j + 1) n h3 (by simp at hn; omega) (by omega)
  rw [ht, List.map_append] at ih'
  unfold ref39_Logins_Begin_L1
  rw [if_pos (by simp; omega)]
  simp only [hix, Option.bind_some, hb, ref39_Logins_Begin_B2, w64n (show j < 9223372036854775807 by omega)]
  cases he : exS x.2 now with
  | true => rw [he] at ih'; simpa using ih'
  | false =>
   rw [he] at ih'
   rw [if_pos (by rfl), chk_t (by simp [fitL]; omega)]
   simpa using ih'
theorem PI.setA {L : LL} {U : UL} {C : List (Str × Int)} {A : AT} (h : PI L U C A) {L' : LL} (hL : InvL L') {A' : AT} (nd : nodupK A') (len : A'.length ≤ 256) (at' : ∀ p ∈ A', prf p.2.proofs ∧ fits p.2.user ∧ 0 ≤ p.2.begun ∧ p.2.begun ≤ 1099511627776) : PI L' U C A' :=
 ⟨hL, h.und, h.ul, h.ug, h.cnd, h.cu, nd, len, at'⟩
theorem PI.setL {L : LL} {U : UL} {C : List (Str × Int)} {A : AT} (h : PI L U C A) {L' : LL} (hL : InvL L') : PI L' U C A := h.setA hL h.nd h.len h.at_
theorem PI.begin {L : LL} {U : UL} {C : List (Str × Int)} {A : AT} (h : PI L U C A) {id u : Str} {now : Int} (hu : fits u) (hl : (live now A).length < 256) : PI L U C (mputL id ⟨u, lim now, []⟩ (live now A)) := by
 refine h.setA h.lk (nodupK_put (nodupK_filter h.nd)) ?_ fun p hp => ?_
 ·rw [len_put]; split <;> omega
 ·rcases mem_put hp with rfl | hp
  ·exact ⟨prf_nil, hu, lim_range now⟩
  ·exact h.at_ p (List.mem_filter.1 hp).1
theorem PI.del {L : LL} {U : UL} {C : List (Str × Int)} {A : AT} (h : PI L U C A) (id : Str) : PI L U C (mdelL id A) :=
 h.setA h.lk (nodupK_del h.nd) (by have := len_del (k := id) h.nd; have := h.len; omega) fun p hp => h.at_ p (mem_del hp)
theorem PI.prove {L : LL} {U : UL} {C : List (Str × Int)} {A : AT} (h : PI L U C A) {L' : LL} (hL : InvL L') {id : Str} {a : login_attempt} {f t : Int} (hm : mfind id A = some a) (hf : f = 1 ∨ f = 2) (hx : (a.proofs.any fun p => p.Factor == f) = false) :
  PI L' U C (mputL id ⟨a.user, a.begun, a.proofs ++ [⟨f, t⟩]⟩ A) := by
 have ha := h.at_ _ (mfind_mem hm)
 refine h.setA hL (nodupK_put h.nd) ?_ fun p hp => ?_
 ·rw [len_put, if_pos (by rw [hm]; rfl)]; exact h.len
 ·rcases mem_put hp with rfl | hp
  ·exact ⟨prf_add ha.1 hf hx, ha.2⟩
  ·exact h.at_ p hp
def Both (m : Int × Int) (X : Option (Int × login_Logins)) (Y : Option (Int × ref39_Logins)) : Prop := ∃ e L U C A, X = some (e, stM m L U C A) ∧ Y = some (e, rS m L U C A) ∧ PI L U C A
theorem begin_both (m : Int × Int) {L : LL} {U : UL} {C : List (Str × Int)} {A : AT} (h : PI L U C A) (id u : Str) (now : Int) (hi : fits id) (hu : fits u) :
  Both m (login_Logins_Begin (stM m L U C A) id u now) (ref39_Logins_Begin (rS m L U C A) id u now) := by
 have hl := h.len
 have key : ∃ y b, ref39_find (rS m L U C A) id now = some y ∧ (y.2 == 1) = false ∧ (y.2 == 0) = b ∧ (if mhas (some A : GMap Str login_attempt) id = true then some (!exS (mgetD (some A : GMap Str login_attempt) id ⟨[], 0, []⟩) now) else some false) = some b ∧ (b = false → mfind id (live now A) = none) := by
  rcases rfind39 m h id now with ⟨k, a, hk, hf, he⟩ | ⟨he, hn⟩
  ·cases hx : exS a now with
   | true =>
    rw [hx] at he
    refine ⟨_, false, he, rfl, rfl, by simp [mhas, mgetD, hf, hx], fun _ => mfind_none.2 fun p hp hpe => ?_⟩
    obtain ⟨p1, p2⟩ := List.mem_filter.1 hp
    have : p = (id, a) := same_key h.nd p1 (mfind_mem hf) hpe
    rw [this] at p2
    simp [hx] at p2
   | false =>
    rw [hx] at he
    exact ⟨_, true, he, rfl, rfl, by simp [mhas, mgetD, hf, hx], fun q => by cases q⟩
  ·exact ⟨_, false, he, rfl, rfl, by simp [mhas, hn], fun _ => mfind_none.2 fun p hp => mfind_none.1 hn p (List.mem_filter.1 hp).1⟩
 obtain ⟨y, b, k1, k2, k3, k4, k5⟩ := key
 unfold login_Logins_Begin ref39_Logins_Begin
 simp only [ready_eq, k1, k2, Option.bind_some, Bool.not_true, Bool.false_eq_true, if_false, fold_Word_eq id hi, fold_Word_eq u hu, ref01_Word_eq id hi, ref01_Word_eq u hu]
 cases h1 : word id with
 | false => exact ⟨5, _, _, _, _, rfl, rfl, h⟩
 | true =>
  cases h2 : word u with
  | false => exact ⟨5, _, _, _, _, rfl, rfl, h⟩
  | true =>
   simp only [Bool.not_true, Bool.false_eq_true, if_false, Option.bind_some, expired_eq]
   rw [k4, Option.bind_some, k3]
   cases b with
   | true => exact ⟨7, _, _, _, _, rfl, rfl, h⟩
   | false =>
    simp only [Bool.false_eq_true, if_false]
    rw [open_eq m L U C A now h.nd (by omega), ropen39 m h now, Option.bind_some, Option.bind_some]
    by_cases h3 : (live now A).length ≥ 256
    ·rw [if_pos (by simp; omega), if_pos (by simp; omega)]; exact ⟨3, _, _, _, _, rfl, rfl, h⟩
    ·rw [if_neg (by simp; omega), if_neg (by simp; omega), begin_del A now h.nd (by omega), Option.bind_some, clock_Add_eq, addS_0, Option.bind_some, chk_t (show (some (live now A) : GMap Str login_attempt).isSome = true from rfl)]
     have hr := rbegin_loop m L U C (A := A) (fun p hp => (h.at_ p hp).2.2) (by omega) id u now A 0 fuel rfl (fuel_big (by omega)) (by omega)
     refine ⟨0, L, U, C, mputL id ⟨u, lim now, []⟩ (live now A), rfl, ?_, h.begin hu (by omega)⟩
     rw [put_none (k5 rfl)]
     exact hr
theorem presented_loop (m : Int × Int) {L : LL} (hL : InvL L) (U : UL) (C : List (Str × Int)) (A : AT) (f now k b : Int) (id u : Str) (ps : List api_Proof) (hp : ps.length ≤ 2) : ∀ (s : List api_Proof) (j n : Nat), ps.drop j = s → s.length < n →
  ref39_presented_L1 n (rS m L U C A) f now k id u b ps (j : Int) = some (if (s.any fun p => p.Factor == f) = true then (-1, 12) else if lockedS L u now = true then (-1, 22) else (k, 0)) := by
 intro s
 induction s with
 | nil =>
  intro j n hd hn
  obtain ⟨n, rfl⟩ : ∃ k, n = k + 1 := ⟨n - 1, by simp at hn; omega⟩
  have := drop_nil hd
  unfold ref39_presented_L1
  rw [if_neg (by simp; omega), optC_some_eq, rlocked_eq m.1 100 m.2 hL, Option.bind_some]
  cases lockedS L u now <;> rfl
 | cons x s ih =>
  intro j n hd hn
  obtain ⟨n, rfl⟩ : ∃ k, n = k + 1 := ⟨n - 1, by simp at hn; omega⟩
  obtain ⟨h1, h2, h3⟩ := drop_more hd
  have hlt := drop_lt hd
  unfold ref39_presented_L1
  rw [if_pos (by simp; omega), idx_n, h2, Option.bind_some, List.any_cons]
  cases hx : (x.Factor == f) with
  | true => rfl
  | false =>
   rw [if_neg (by simp), w64n (show j < 9223372036854775807 by omega), Bool.false_or]
   exact ih (j + 1) n h3 (by simp at hn; omega)
theorem presented_eq (m : Int × Int) {L : LL} {U : UL} {C : List (Str × Int)} {A : AT} (h : PI L U C A) (id : Str) (f now : Int) :
  (∃ (k : Nat) (a : login_attempt), AtK A id k a ∧ mfind id A = some a ∧ findE A id now = 0 ∧ ref39_presented (rS m L U C A) id f now = some (if (a.proofs.any fun p => p.Factor == f) = true then (-1, 12) else if lockedS L a.user now = true then (-1, 22) else ((k : Int), 0))) ∨
   (findE A id now ≠ 0 ∧ ref39_presented (rS m L U C A) id f now = some (-1, findE A id now)) := by
 unfold ref39_presented findE
 rcases rfind39 m h id now with ⟨k, a, hk, hf, he⟩ | ⟨he, hn⟩
 ·rw [he, hf]
  cases hx : exS a now with
  | true => exact .inr ⟨by simp [hx], by simp [hx]⟩
  | false =>
   have ha := (h.at_ _ hk.mem).1
   have hl : a.proofs.length ≤ 2 := prf_len ha
   refine .inl ⟨k, a, hk, rfl, by simp [hx], ?_⟩
   rw [if_neg (by simp), Option.bind_some, if_neg (by simp)]
   have hix : idx (rS m L U C A).attempts ((k : Int), (0 : Int)).1 = some (aref (id, a)) := hk.ix aref
   rw [hix, Option.bind_some]
   exact presented_loop m h.lk U C A f now k a.begun id a.user a.proofs hl a.proofs 0 fuel rfl (fuel_big (by omega))
 ·rw [he, hn]
  exact .inr ⟨by simp, rfl⟩
theorem prove_eq {A : AT} (lk : Option ref22_Locks) (us : List ref39_user) {id : Str} {k : Nat} {a : login_attempt} (hk : AtK A id k a) (hn : nodupK A) (hl : a.proofs.length ≤ 2) (f now : Int) :
  ref39_prove ⟨lk, us, A.map aref⟩ (k : Int) f now = some ⟨lk, us, (mputL id ⟨a.user, a.begun, a.proofs ++ [⟨f, lim now⟩]⟩ A).map aref⟩ := by
 have hix : idx (A.map aref) (k : Int) = some ⟨id, a.user, a.begun, a.proofs⟩ := hk.ix aref
 have hp : setAt (A.map aref) (k : Int) ⟨id, a.user, a.begun, a.proofs ++ [⟨f, lim now⟩]⟩ = (mputL id ⟨a.user, a.begun, a.proofs ++ [⟨f, lim now⟩]⟩ A).map aref := hk.put aref (x := ⟨a.user, a.begun, a.proofs ++ [⟨f, lim now⟩]⟩)
 unfold ref39_prove ref04_Limit
 simp only [hix, Option.bind_some, lim_eq]
 rw [chk_t (by simp [fitL]; omega)]
 simp only [hp]
 rw [chk_t]
 refine List.all_eq_true.2 fun x hx => ?_
 obtain ⟨q, hq, rfl⟩ := List.mem_map.1 hx
 by_cases he : q.1 = id
 ·have : q = (id, ⟨a.user, a.begun, a.proofs ++ [⟨f, lim now⟩]⟩) := same_key (nodupK_put hn) hq (mfind_mem mfind_put_self) he
  rw [this]
  simp [aref]
 ·simp [aref, he]
def okP (U : UL) (u pw : Str) : Bool := match mfind u U with | none => false | some c => chkS c.verifier pw
theorem byPw_is (m : Int × Int) {L : LL} {U : UL} (C : List (Str × Int)) {A : AT} (h : PI L U C A) (u pw : Str) (now : Int) (hp : fits pw) :
  login_Logins_byPassword (stM m L U C A) u pw now = some (okP U u pw, stM m (if okP U u pw = true then mdelL u L else L) U C A) := by
 unfold login_Logins_byPassword okP
 rcases opt_cases (mfind u U) with e | ⟨c, e⟩
 ·simp [mhas, e]
 ·have hg := h.ug _ (mfind_mem e)
  simp only [mhas, mgetD, e, Option.bind_some, Option.isSome_some, Bool.not_true, Bool.false_eq_true, if_false, Option.getD_some, secret_Check_eq c.verifier pw hg.1 hp]
  cases chkS c.verifier pw with
  | false => rfl
  | true => simp only [Bool.not_true, Bool.false_eq_true, if_false, Option.bind_some, optC_some_eq, clear_eq]; rfl
theorem pw_both (m : Int × Int) {L : LL} {U : UL} {C : List (Str × Int)} {A : AT} (h : PI L U C A) (id pw : Str) (now : Int) (hp : fits pw) :
  Both m (login_Logins_Password (stM m L U C A) id pw now) (ref39_Logins_Password (rS m L U C A) id pw now) := by
 unfold login_Logins_Password login_Logins_present__Logins_byPassword ref39_Logins_Password
 rcases presented_eq m h id 1 now with ⟨k, a, hk, hm, hf, he⟩ | ⟨hf, he⟩
 ·obtain ⟨a', e1, e2, e3⟩ := find_some (m := m) (L := L) (U := U) (C := C) hf
  rw [hm] at e1
  obtain rfl := Option.some.inj e1
  have ha := h.at_ _ hk.mem
  have hl : a.proofs.length ≤ 2 := prf_len ha.1
  have hh : login_attempt_has a 1 = _ := has_eq a.user a.begun hl 1
  simp only [e3, he, Option.bind_some, bne_self_eq_false, Bool.false_eq_true, if_false, hh]
  cases hx : (a.proofs.any fun p => p.Factor == 1) with
  | true => exact ⟨12, _, _, _, _, rfl, rfl, h⟩
  | false =>
   simp only [Bool.false_eq_true, if_false, optC_some_eq, locked_eq, Option.bind_some]
   cases hlk : lockedS L a.user now with
   | true => exact ⟨22, _, _, _, _, rfl, rfl, h⟩
   | false =>
    have hix : idx (A.map aref) (k : Int) = some (aref (id, a)) := hk.ix aref
    simp only [Bool.false_eq_true, if_false, byPw_is m C h a.user pw now hp, Option.bind_some, bne_self_eq_false, hix]
    have key : ∃ y, ref39_at (rS m L U C A) a.user = some y ∧ (if decide (y < 0) = true then some true else (idx (U.map (uref C)) y).bind fun y41 => (ref22_Check y41.v pw).bind fun y50 => some (!y50)) = some (!okP U a.user pw) := by
     unfold okP
     rcases rat39 m L C A h.und h.ul a.user with ⟨j, c, hj, hc, hr⟩ | ⟨hr, hc⟩
     ·have hg := h.ug _ hj.mem
      refine ⟨_, hr, ?_⟩
      rw [if_neg (by simp), hj.ix (uref C), Option.bind_some, ref22_Check_eq c.verifier pw hg.1 hp, hc]
      rfl
     ·exact ⟨_, hr, by rw [hc]; rfl⟩
    obtain ⟨y, y1, y2⟩ := key
    simp only [y1, Option.bind_some]
    rw [y2]
    cases hok : okP U a.user pw with
    | false =>
     simp only [Option.bind_some, Bool.not_false, if_true, Bool.false_eq_true, if_false, optC_some_eq, fail_eq m.1 100 m.2 h.lk a.user now ha.2.1, rfail_eq m.1 100 m.2 h.lk a.user now ha.2.1]
     exact ⟨11, _, _, _, _, rfl, rfl, h.setL (invL_fail h.lk _ _ _ _ _)⟩
    | true =>
     simp only [Option.bind_some, Bool.not_true, Bool.false_eq_true, if_false, if_true, optC_some_eq, clone_eq hl, clock_Add_eq, addS_0, rclear_eq m.1 100 m.2 h.lk, prove_eq _ _ hk h.nd hl]
     rw [chk_t (by unfold fitL; simp; omega), chk_t (show (some A : GMap Str login_attempt).isSome = true from rfl)]
     exact ⟨0, _, _, _, _, rfl, rfl, h.prove (invL_del h.lk _) hm (.inl rfl) hx⟩
 ·have e3 := find_none (m := m) (L := L) (U := U) (C := C) hf
  rw [e3, he, Option.bind_some, Option.bind_some, if_pos (by simpa using hf), if_pos (by simpa using hf)]
  exact ⟨_, _, _, _, _, rfl, rfl, h⟩
theorem lastC_put_ne {C : List (Str × Int)} {u v : Str} {n : Int} (h : v ≠ u) : lastC (mputL u n C) v = lastC C v := by unfold lastC; rw [mfind_put_ne h]
theorem uref_put {U : UL} {C : List (Str × Int)} {u : Str} {k : Nat} {c : login_credentials} {n : Int} (hk : AtK U u k c) (hn : nodupK U) :
  setAt (U.map (uref C)) (k : Int) ⟨u, c.verifier, c.code, n⟩ = U.map (uref (mputL u n C)) := by
 have e : lastC (mputL u n C) u = n := by unfold lastC; rw [mfind_put_self]; rfl
 have hs : ∀ V : List ref39_user, setAt V (k : Int) ⟨u, c.verifier, c.code, n⟩ = V.set k ⟨u, c.verifier, c.code, n⟩ := fun V => by simp [setAt]
 rw [hs]
 refine List.ext_getElem? fun j => ?_
 rw [List.getElem?_set, List.getElem?_map, List.getElem?_map, List.length_map]
 by_cases hj : k = j
 ·subst hj
  rw [if_pos rfl, if_pos hk.lt, hk.get]
  simp only [Option.map_some, uref, e]
 ·rw [if_neg hj]
  rcases opt_cases U[j]? with h1 | ⟨p, h1⟩
  ·rw [h1]; rfl
  ·rw [h1]
   have hne : p.1 ≠ u := by
    intro he
    have : p = (u, c) := same_key hn (List.mem_of_getElem? h1) hk.mem he
    obtain ⟨q1, q2⟩ := List.getElem?_eq_some_iff.1 h1
    obtain ⟨q3, q4⟩ := List.getElem?_eq_some_iff.1 hk.get
    have hnd : (U.map Prod.fst).Nodup := hn
    have hpw := List.pairwise_iff_getElem.1 hnd
    rcases Nat.lt_or_gt_of_ne hj with hlt | hlt
    ·exact hpw k j (by simpa using q3) (by simpa using q1) hlt (by simp [q2, q4, this])
    ·exact hpw j k (by simpa using q1) (by simpa using q3) hlt (by simp [q2, q4, this])
   simp only [Option.map_some, uref, lastC_put_ne hne]
def okC (U : UL) (C : List (Str × Int)) (u code : Str) (now : Int) : Bool := match mfind u U with | none => false | some c => !(c.code == ([] : Str)) && (Otp.atR c.code (lastC C u) now 60 code).2 == 0
def ctC (U : UL) (C : List (Str × Int)) (u code : Str) (now : Int) : Int := match mfind u U with | none => 0 | some c => (Otp.atR c.code (lastC C u) now 60 code).1
theorem byCode_is (m : Int × Int) {L : LL} {U : UL} {C : List (Str × Int)} {A : AT} (h : PI L U C A) (u code : Str) (now : Int) (hp : fits code) :
  login_Logins_byCode (stM m L U C A) u code now = some (okC U C u code now, stM m L U (if okC U C u code now = true then mputL u (ctC U C u code now) C else C) A) := by
 unfold login_Logins_byCode okC ctC
 rcases opt_cases (mfind u U) with e | ⟨c, e⟩
 ·simp [mhas, e]
 ·have hg := h.ug _ (mfind_mem e)
  simp only [mhas, mgetD, e, Option.bind_some, Option.isSome_some, Bool.not_true, Bool.false_or, Option.getD_some]
  cases hc : (c.code == ([] : Str)) with
  | true => rfl
  | false =>
   simp only [Bool.false_eq_true, if_false, last_eq, Option.bind_some, Otp.otp_VerifyAt_eq _ _ _ _ _ hg.2 hp, Bool.not_false, Bool.true_and]
   by_cases h2 : (Otp.atR c.code (lastC C u) now 60 code).2 = 0
   ·rw [if_neg (by simp [h2]), chk_t rfl, if_pos (by simp [h2])]
    simp [h2, mput]
   ·rw [if_pos (by simpa using h2), if_neg (by simpa using h2)]
    simp [h2]
theorem PI.setC {L : LL} {U : UL} {C : List (Str × Int)} {A : AT} (h : PI L U C A) {u : Str} {n : Int} (hu : mfind u U ≠ none) : PI L U (mputL u n C) A :=
 ⟨h.lk, h.und, h.ul, h.ug, nodupK_put h.cnd, fun v hv => by
  have : v ≠ u := fun e => hu (e ▸ hv)
  rw [mfind_put_ne this]; exact h.cu v hv, h.nd, h.len, h.at_⟩
theorem code_both (m : Int × Int) {L : LL} {U : UL} {C : List (Str × Int)} {A : AT} (h : PI L U C A) (id code : Str) (now : Int) (hp : fits code) :
  Both m (login_Logins_Code (stM m L U C A) id code now) (ref39_Logins_Code (rS m L U C A) id code now) := by
 unfold login_Logins_Code login_Logins_present__Logins_byCode ref39_Logins_Code
 rcases presented_eq m h id 2 now with ⟨k, a, hk, hm, hf, he⟩ | ⟨hf, he⟩
 ·obtain ⟨a', e1, e2, e3⟩ := find_some (m := m) (L := L) (U := U) (C := C) hf
  rw [hm] at e1
  obtain rfl := Option.some.inj e1
  have ha := h.at_ _ hk.mem
  have hl : a.proofs.length ≤ 2 := prf_len ha.1
  have hh : login_attempt_has a 2 = _ := has_eq a.user a.begun hl 2
  simp only [e3, he, Option.bind_some, bne_self_eq_false, Bool.false_eq_true, if_false, hh]
  cases hx : (a.proofs.any fun p => p.Factor == 2) with
  | true => exact ⟨12, _, _, _, _, rfl, rfl, h⟩
  | false =>
   simp only [Bool.false_eq_true, if_false, optC_some_eq, locked_eq, Option.bind_some]
   cases hlk : lockedS L a.user now with
   | true => exact ⟨22, _, _, _, _, rfl, rfl, h⟩
   | false =>
    have hix : idx (A.map aref) (k : Int) = some (aref (id, a)) := hk.ix aref
    simp only [Bool.false_eq_true, if_false, byCode_is m h a.user code now hp, Option.bind_some, bne_self_eq_false, hix]
    rcases rat39 m L C A h.und h.ul a.user with ⟨j, c, hj, hc, hr⟩ | ⟨hr, hc⟩
    ·have hg := h.ug _ hj.mem
     have hiu : idx (U.map (uref C)) (j : Int) = some ⟨a.user, c.verifier, c.code, lastC C a.user⟩ := hj.ix (uref C)
     have hne : mfind a.user U ≠ none := by rw [hc]; simp
     rw [hr, Option.bind_some, if_neg (show ¬ decide ((j : Int) < 0) = true by simp)]
     simp only [hiu, Option.bind_some]
     unfold okC ctC
     simp only [hc]
     cases hcc : (c.code == ([] : Str)) with
     | true =>
      simp only [Bool.not_true, Bool.false_and, Bool.not_false, if_true, Bool.false_eq_true, if_false, optC_some_eq, Option.bind_some, fail_eq m.1 100 m.2 h.lk a.user now ha.2.1, rfail_eq m.1 100 m.2 h.lk a.user now ha.2.1]
      exact ⟨11, _, _, _, _, rfl, rfl, h.setL (invL_fail h.lk _ _ _ _ _)⟩
     | false =>
      simp only [Bool.not_false, Bool.true_and, Bool.false_eq_true, if_false, Otp.ref23_VerifyAt_eq _ _ _ _ _ hg.2 hp, Option.bind_some]
      by_cases h2 : (Otp.atR c.code (lastC C a.user) now 60 code).2 = 0
      ·simp only [h2, bne_self_eq_false, Bool.false_eq_true, if_false, beq_self_eq_true, Bool.not_true, if_true, uref_put hj h.und, prove_eq _ _ hk h.nd hl, Option.bind_some, clone_eq hl, clock_Add_eq, addS_0]
       rw [chk_t (by unfold fitL; simp; omega), chk_t (show (some A : GMap Str login_attempt).isSome = true from rfl)]
       exact ⟨0, _, _, _, _, rfl, rfl, (h.setC hne).prove h.lk hm (.inr rfl) hx⟩
      ·have h3 : ((Otp.atR c.code (lastC C a.user) now 60 code).2 == 0) = false := by simpa using h2
       have h4 : ((Otp.atR c.code (lastC C a.user) now 60 code).2 != 0) = true := by simpa using h2
       simp only [h3, h4, Bool.not_false, if_true, Bool.false_eq_true, if_false, optC_some_eq, Option.bind_some, fail_eq m.1 100 m.2 h.lk a.user now ha.2.1, rfail_eq m.1 100 m.2 h.lk a.user now ha.2.1]
       exact ⟨11, _, _, _, _, rfl, rfl, h.setL (invL_fail h.lk _ _ _ _ _)⟩
    ·have hok : okC U C a.user code now = false := by unfold okC; rw [hc]
     rw [hr, Option.bind_some, if_pos (show decide ((-1 : Int) < 0) = true by decide), hok]
     simp only [Option.bind_some, Bool.not_false, if_true, Bool.false_eq_true, if_false, optC_some_eq, fail_eq m.1 100 m.2 h.lk a.user now ha.2.1, rfail_eq m.1 100 m.2 h.lk a.user now ha.2.1]
     exact ⟨11, _, _, _, _, rfl, rfl, h.setL (invL_fail h.lk _ _ _ _ _)⟩
 ·have e3 := find_none (m := m) (L := L) (U := U) (C := C) hf
  rw [e3, he, Option.bind_some, Option.bind_some, if_pos (by simpa using hf), if_pos (by simpa using hf)]
  exact ⟨_, _, _, _, _, rfl, rfl, h⟩
theorem enroll_both (m : Int × Int) {L : LL} {U : UL} {C : List (Str × Int)} {A : AT} (h : PI L U C A) (u : Str) (v : api_Verifier) (code : Str) (hu : fits u) (hv : fits v.Salt) (hc : fits code) :
  Both m (login_Logins_Enroll (stM m L U C A) u v code) (ref39_Logins_Enroll (rS m L U C A) u v code) := by
 have hul := h.ul
 have hmade : ref39_made (rS m L U C A) = some true := rfl
 unfold login_Logins_Enroll ref39_Logins_Enroll
 simp only [ready_eq, hmade, Option.bind_some, Bool.not_true, Bool.false_eq_true, if_false, fold_Word_eq u hu, ref01_Word_eq u hu]
 cases h1 : word u with
 | false => exact ⟨5, _, _, _, _, rfl, rfl, h⟩
 | true =>
  simp only [Bool.not_true, Bool.false_eq_true, if_false, secret_Valid_eq v hv, ref22_Valid_eq v hv, Option.bind_some, fold_Clean_eq code hc, ref01_Clean_eq code hc]
  have hb : ∃ b, (Option.bind (if (!vldS v) = true then some true else Option.bind (if (!(code == ([] : Str))) = true then some (!clean code) else some false) fun z55 => some z55) fun z47 => some z47) = some b := by
   cases vldS v <;> cases (code == ([] : Str)) <;> exact ⟨_, rfl⟩
  obtain ⟨b, hb⟩ := hb
  rw [bind_id] at hb
  rw [hb, Option.bind_some, Option.bind_some]
  cases b with
  | true => exact ⟨4, _, _, _, _, rfl, rfl, h⟩
  | false =>
   simp only [Bool.false_eq_true, if_false]
   have hgo : ∀ p ∈ mputL u ⟨v, code⟩ U, fits p.2.verifier.Salt ∧ fits p.2.code := fun p hp => by
    rcases mem_put hp with rfl | hp
    ·exact ⟨hv, hc⟩
    ·exact h.ug p hp
   have hcu : ∀ w, mfind w (mputL u ⟨v, code⟩ U) = none → mfind w C = none := fun w hw => by
    rw [mfind_put] at hw
    split at hw
    ·cases hw
    ·exact h.cu w hw
   rcases rat39 m L C A h.und h.ul u with ⟨j, c, hj, hf, hr⟩ | ⟨hr, hf⟩
   ·have hmh : mhas (some U : GMap Str login_credentials) u = true := by simp [mhas, hf]
    have hix : idx (U.map (uref C)) (j : Int) = some ⟨u, c.verifier, c.code, lastC C u⟩ := hj.ix (uref C)
    have hp1 : setAt (U.map (uref C)) (j : Int) ⟨u, v, c.code, lastC C u⟩ = (mputL u ⟨v, c.code⟩ U).map (uref C) := hj.put (uref C) (x := ⟨v, c.code⟩)
    have hj2 : AtK (mputL u ⟨v, c.code⟩ U) u j ⟨v, c.code⟩ := by
     rw [put_set hj.get hj.pre]
     refine ⟨by rw [List.getElem?_set, if_pos rfl, if_pos hj.lt], fun q hq => hj.pre q ?_⟩
     rw [List.take_set_of_le (Nat.le_refl _)] at hq
     exact hq
    have hix2 : idx ((mputL u ⟨v, c.code⟩ U).map (uref C)) (j : Int) = some ⟨u, v, c.code, lastC C u⟩ := hj2.ix (uref C)
    have hp2 : setAt ((mputL u ⟨v, c.code⟩ U).map (uref C)) (j : Int) ⟨u, v, code, lastC C u⟩ = (mputL u ⟨v, code⟩ (mputL u ⟨v, c.code⟩ U)).map (uref C) := hj2.put (uref C) (x := ⟨v, code⟩)
    have hpp : mputL u ⟨v, code⟩ (mputL u ⟨v, c.code⟩ U) = mputL u ⟨v, code⟩ U := by
     rw [put_set hj2.get hj2.pre, put_set hj.get hj.pre, put_set hj.get hj.pre, List.set_set]
    rw [hmh, if_neg (by simp), chk_t (show (some U : GMap Str login_credentials).isSome = true from rfl), hr, Option.bind_some, if_neg (by simp)]
    unfold ref39_Logins_Enroll_B1
    simp only [hix, Option.bind_some, hp1, hix2, hp2, hpp]
    refine ⟨0, L, mputL u ⟨v, code⟩ U, C, A, rfl, rfl, h.lk, nodupK_put h.und, ?_, hgo, h.cnd, hcu, h.nd, h.len, h.at_⟩
    rw [len_put, if_pos (by rw [hf]; rfl)]; exact h.ul
   ·have hmh : mhas (some U : GMap Str login_credentials) u = false := by simp [mhas, hf]
    rw [hmh, hr, Option.bind_some, if_pos (show decide ((-1 : Int) < 0) = true by decide)]
    have hml : mlen (some U : GMap Str login_credentials) = (U.length : Int) := mlen_some U
    by_cases h3 : U.length ≥ 256
    ·rw [if_pos (by simp only [hml]; simp; omega), if_pos (by simp; omega)]; exact ⟨3, _, _, _, _, rfl, rfl, h⟩
    ·rw [if_neg (by simp only [hml]; simp; omega), chk_t (show (some U : GMap Str login_credentials).isSome = true from rfl), if_neg (by simp; omega), chk_t (by simp [fitL]; omega)]
     have hlast : lastC C u = -1 := by unfold lastC; rw [h.cu u hf]; rfl
     have e0 : ∀ x : login_credentials, U.map (uref C) ++ [(⟨u, x.verifier, x.code, -1⟩ : ref39_user)] = (U ++ [(u, x)]).map (uref C) := fun x => by
      rw [List.map_append]
      simp only [List.map_cons, List.map_nil, uref, hlast]
     have hA : ∀ x : login_credentials, AtK (U ++ [(u, x)]) u U.length x := fun x =>
      ⟨by simp, fun q hq => by rw [List.take_left] at hq; exact mfind_none.1 hf q hq⟩
     have hP : ∀ x y : login_credentials, mputL u y (U ++ [(u, x)]) = U ++ [(u, y)] := fun x y => by
      rw [put_set (hA x).get (hA x).pre, List.set_append_right _ _ (Nat.le_refl _)]; simp
     have hl0 : ((U.map (uref C)).length : Int) = (U.length : Int) := by simp
     have hix : ∀ x : login_credentials, idx ((U ++ [(u, x)]).map (uref C)) (U.length : Int) = some ⟨u, x.verifier, x.code, -1⟩ := fun x => by
      have := (hA x).ix (uref C); rw [this]; simp only [uref, hlast]
     have hpt : ∀ x y : login_credentials, setAt ((U ++ [(u, x)]).map (uref C)) (U.length : Int) ⟨u, y.verifier, y.code, -1⟩ = (U ++ [(u, y)]).map (uref C) := fun x y => by
      have := (hA x).put (uref C) (x := y); rw [hP] at this; rw [← this]; simp only [uref, hlast]
     have g0 := e0 ⟨⟨[], 0, []⟩, []⟩
     have g1 := hix ⟨⟨[], 0, []⟩, []⟩
     have g2 := hpt ⟨⟨[], 0, []⟩, []⟩ ⟨v, []⟩
     have g3 := hix ⟨v, []⟩
     have g4 := hpt ⟨v, []⟩ ⟨v, code⟩
     simp only at g0 g1 g2 g3 g4
     unfold ref39_Logins_Enroll_B1
     simp only [hl0, g0, g1, Option.bind_some, g2, g3, g4]
     refine ⟨0, L, mputL u ⟨v, code⟩ U, C, A, rfl, ?_, h.lk, nodupK_put h.und, ?_, hgo, h.cnd, hcu, h.nd, h.len, h.at_⟩
     ·rw [put_none hf]
     ·rw [len_put, hf]; simp; omega
theorem rhas_eq {ps : List api_Proof} (h : ps.length ≤ 2) (f : Int) : ref34_Has ps f = some (ps.any fun p => p.Factor == f) := by
 obtain ⟨n, hn⟩ := fuel_3
 unfold ref34_Has
 rw [hn]
 rcases ps with _ | ⟨x, _ | ⟨y, _ | _⟩⟩
 ·simp [ref34_Has_L1]
 ·by_cases hx : x.Factor = f <;> simp [ref34_Has_L1, idx, w01, hx]
 ·by_cases hx : x.Factor = f <;> by_cases hy : y.Factor = f <;> simp [ref34_Has_L1, idx, w01, w11, hx, hy]
 ·simp at h
theorem rlevel_eq {ps : List api_Proof} (h : prf ps) : ref34_Level ps = some (ps.length : Int) := by
 have hl := prf_len h
 have e : (ps.length : Int) = ((ps.map (·.Factor)).length : Int) := by simp
 obtain ⟨n, hn⟩ := fuel_3
 unfold ref34_Level ref34_ordinary
 rw [hn, e]
 simp only [Option.bind_some, ref34_ordinary_L1, ref34_ordinary_B2, rhas_eq hl, any_map]
 unfold prf Fs at h
 simp only [List.mem_cons, List.not_mem_nil, or_false] at h
 rcases h with h | h | h | h | h <;> rw [h] <;> rfl
theorem same_ps {ps : List api_Proof} (h : ps.length ≤ 2) : ref39_Same ps ps = some true := by
 obtain ⟨n, hn⟩ := fuel_3
 unfold ref39_Same
 rw [hn]
 rcases ps with _ | ⟨x, _ | ⟨y, _ | _⟩⟩
 ·simp [ref39_Same_L1]
 ·simp [ref39_Same_L1, idx, w01, api_Proof.eqb]
 ·simp [ref39_Same_L1, idx, w01, w11, api_Proof.eqb]
 ·simp at h
theorem without_eq {A : AT} {id : Str} {k : Nat} {a : login_attempt} (hk : AtK A id k a) (hl : A.length ≤ 256) : ref39_without (A.map aref) (k : Int) = some ((mdelL id A).map aref) := by
 have hlt := hk.lt
 have e1 : (A.map aref).length = A.length := by simp
 unfold ref39_without
 rw [w64n (show k < 9223372036854775807 by omega)]
 have z : (0 : Int) = ((0 : Nat) : Int) := rfl
 rw [z, inc_n, cut_n, inc_n, cut_n, chk_t (by rw [decide_eq_true_eq]; omega), chk_t (by simp [fitL]; omega), chk_t (by rw [decide_eq_true_eq]; omega), chk_t (by simp [fitL]; omega)]
 rw [del_cut hk.get hk.pre, List.map_append, List.map_take, List.map_drop, List.nil_append, List.drop_zero]
 congr 2
 rw [List.take_of_length_le (by rw [List.length_drop]; omega)]
def BothF (m : Int × Int) (X : Option (Str × List api_Proof × Int × login_Logins)) (Y : Option (Str × List api_Proof × Int × ref39_Logins)) : Prop := ∃ u ps e L U C A, X = some (u, ps, e, stM m L U C A) ∧ Y = some (u, ps, e, rS m L U C A) ∧ ps.length ≤ 2 ∧ PI L U C A
theorem finish_both (m : Int × Int) {L : LL} {U : UL} {C : List (Str × Int)} {A : AT} (h : PI L U C A) (id : Str) (level now : Int) :
  BothF m (login_Logins_Finish (stM m L U C A) id level now) (ref39_Logins_Finish (rS m L U C A) id level now) := by
 have hlen := h.len
 unfold login_Logins_Finish ref39_Logins_Finish
 rcases rfind39 m h id now with ⟨k, a, hk, hm, he⟩ | ⟨he, hn⟩
 ·cases hx : exS a now with
  | true =>
   have hf : findE A id now = 13 := by unfold findE; rw [hm]; simp [hx]
   have e3 := find_none (m := m) (L := L) (U := U) (C := C) (show findE A id now ≠ 0 by rw [hf]; decide)
   rw [hx] at he
   rw [e3, he, hf]
   exact ⟨_, _, _, _, _, _, _, rfl, rfl, by simp, h⟩
  | false =>
   have hf : findE A id now = 0 := by unfold findE; rw [hm]; simp [hx]
   obtain ⟨a', e1, e2, e3⟩ := find_some (m := m) (L := L) (U := U) (C := C) hf
   rw [hm] at e1
   obtain rfl := Option.some.inj e1
   rw [hx] at he
   have ha := h.at_ _ hk.mem
   have hl : a.proofs.length ≤ 2 := prf_len ha.1
   have hix : idx (A.map aref) (k : Int) = some ⟨id, a.user, a.begun, a.proofs⟩ := hk.ix aref
   simp only [e3, he, Option.bind_some, bne_self_eq_false, Bool.false_eq_true, if_false, level_eq ha.1, clone_eq hl, hix, rlevel_eq ha.1]
   by_cases h4 : (a.proofs.length : Int) < level
   ·rw [if_pos (decide_eq_true h4), if_pos (decide_eq_true h4)]; exact ⟨_, _, _, _, _, _, _, rfl, rfl, by simp, h⟩
   ·rw [if_neg (by simpa using h4), if_neg (by simpa using h4), without_eq hk hlen, Option.bind_some, chk_t]
    ·exact ⟨_, _, _, _, _, _, _, rfl, rfl, hl, h.del id⟩
    ·refine List.all_eq_true.2 fun x hx => ?_
     obtain ⟨q, hq, rfl⟩ := List.mem_map.1 hx
     rw [del_filter h.nd] at hq
     have := (List.mem_filter.1 hq).2
     simpa [aref] using this
 ·have hf : findE A id now = 6 := by unfold findE; rw [hn]
  have e3 := find_none (m := m) (L := L) (U := U) (C := C) (show findE A id now ≠ 0 by rw [hf]; decide)
  rw [e3, he, hf]
  exact ⟨_, _, _, _, _, _, _, rfl, rfl, by simp, h⟩
theorem drop_eq (m : Int × Int) (L : LL) (U : UL) (C : List (Str × Int)) {A : AT} (hn : nodupK A) (hl : A.length ≤ 1000) (u : Str) :
  login_Logins_Drop (stM m L U C A) u = some ((mfind u U).isSome, stM m (mdelL u L) (mdelL u U) (mdelL u C) (others u A)) := by
 unfold login_Logins_Drop
 rw [ready_eq, Option.bind_some, if_neg (by simp), Option.bind_some]
 simp only [optC_some_eq, clear_eq, Option.bind_some, drop_del A u hn hl]
 rfl
theorem others_drop (u : Str) {A : AT} {j : Nat} {x : Str × login_attempt} {s : AT} (hd : A.drop j = x :: s) : others u (A.take (j + 1)) = others u (A.take j) ++ (if !(x.2.user == u) then [x] else []) := by
 rw [take_more hd]
 unfold others
 rw [List.filter_append, List.filter_cons, List.filter_nil]
theorem rdrop_loop (m : Int × Int) (L : LL) (U : UL) (C : List (Str × Int)) {A : AT} (hl : A.length ≤ 1000) (u : Str) : ∀ (s : AT) (j n : Nat), A.drop j = s → s.length < n → j ≤ A.length →
  ∃ n', ref39_Logins_Drop_L1 n (rS m L U C A) u ((others u (A.take j)).map aref) (j : Int) = ref39_Logins_Drop_L1 (n' + 1) (rS m L U C A) u ((others u A).map aref) (A.length : Int) := by
 intro s
 induction s with
 | nil =>
  intro j n hd hn hj
  obtain ⟨n, rfl⟩ : ∃ k, n = k + 1 := ⟨n - 1, by simp at hn; omega⟩
  have := drop_nil hd
  have e : j = A.length := by omega
  subst e
  exact ⟨n, by rw [List.take_of_length_le (Nat.le_refl _)]⟩
 | cons x s ih =>
  intro j n hd hn hj
  obtain ⟨n, rfl⟩ : ∃ k, n = k + 1 := ⟨n - 1, by simp at hn; omega⟩
  obtain ⟨h1, h2, h3⟩ := drop_more hd
  have hlt := drop_lt hd
  have hix : idx (A.map aref) (j : Int) = some (aref x) := by rw [idx_n, List.getElem?_map, h2]; rfl
  have ht := others_drop u hd
  have hll : (others u (A.take j)).length ≤ 1000 := Nat.le_trans (List.length_filter_le _ _) (by rw [List.length_take]; omega)
  obtain ⟨n', ih'⟩ := ih (j + 1) n h3 (by simp at hn; omega) (by omega)
  refine ⟨n', ?_⟩
  rw [ht, List.map_append] at ih'
  rw [← ih']
  conv => lhs; unfold ref39_Logins_Drop_L1
  rw [if_pos (by simp; omega)]
  simp only [hix, Option.bind_some, ref39_Logins_Drop_B2, w64n (show j < 9223372036854775807 by omega)]
  cases he : (x.2.user == u) with
  | true => simp
  | false =>
   rw [if_pos (by rfl), chk_t (by simp [fitL]; omega)]
   simp
theorem PI.drop {L : LL} {U : UL} {C : List (Str × Int)} {A : AT} (h : PI L U C A) (u : Str) : PI (mdelL u L) (mdelL u U) (mdelL u C) (others u A) :=
 ⟨invL_del h.lk u, nodupK_del h.und, by have := len_del (k := u) h.und; have := h.ul; omega, fun p hp => h.ug p (mem_del hp), nodupK_del h.cnd, fun v hv => by
  rw [mfind_del h.cnd]
  rw [mfind_del h.und] at hv
  split
  ·rfl
  ·rename_i hne; rw [if_neg hne] at hv; exact h.cu v hv, nodupK_filter h.nd, Nat.le_trans (List.length_filter_le _ _) h.len, fun p hp => h.at_ p (List.mem_filter.1 hp).1⟩
theorem drop_both (m : Int × Int) {L : LL} {U : UL} {C : List (Str × Int)} {A : AT} (h : PI L U C A) (u : Str) :
  ∃ b L' U' C' A', login_Logins_Drop (stM m L U C A) u = some (b, stM m L' U' C' A') ∧ ref39_Logins_Drop (rS m L U C A) u = some (b, rS m L' U' C' A') ∧ PI L' U' C' A' := by
 have hl := h.len
 have hul := h.ul
 refine ⟨_, _, _, _, _, drop_eq m L U C h.nd (by omega) u, ?_, h.drop u⟩
 have hmade : ref39_made (rS m L U C A) = some true := rfl
 have hUC : (mdelL u U).map (uref (mdelL u C)) = (mdelL u U).map (uref C) := List.map_congr_left fun p hp => by
  rw [del_filter h.und, List.mem_filter] at hp
  have hne : p.1 ≠ u := by simpa using hp.2
  have : lastC (mdelL u C) p.1 = lastC C p.1 := by unfold lastC; rw [mfind_del h.cnd, if_neg hne]
  simp only [uref, this]
 unfold ref39_Logins_Drop
 rw [hmade, Option.bind_some, if_neg (by simp)]
 obtain ⟨n', hd⟩ := rdrop_loop m L U C (A := A) (by omega) u A 0 fuel rfl (fuel_big (by omega)) (by omega)
 have hd' : ref39_Logins_Drop_L1 fuel (rS m L U C A) u [] 0 = _ := hd
 rw [hd']
 unfold ref39_Logins_Drop_L1
 rw [if_neg (by simp), optC_some_eq, rclear_eq m.1 100 m.2 h.lk, Option.bind_some]
 have hrs : (⟨some (rk m.1 100 m.2 (mdelL u L)), (rS m L U C A).users, (others u A).map aref⟩ : ref39_Logins) = rS m (mdelL u L) U C (others u A) := rfl
 rw [hrs]
 rcases rat39 m (mdelL u L) C (others u A) h.und h.ul u with ⟨j, c, hj, hf, hr⟩ | ⟨hr, hf⟩
 ·have hlt := hj.lt
  have e1 : (rS m L U C A).users.length = U.length := by simp
  rw [hr, Option.bind_some, if_neg (by simp), w64n (show j < 9223372036854775807 by omega)]
  have z : (0 : Int) = ((0 : Nat) : Int) := rfl
  rw [z, inc_n, cut_n, inc_n, cut_n, chk_t (by rw [decide_eq_true_eq]; omega), chk_t (by simp [fitL]; omega), chk_t (by rw [decide_eq_true_eq]; omega), chk_t (by simp [fitL]; omega)]
  have hx : ([] : List ref39_user) ++ ((rS m L U C A).users.drop 0).take (j - 0) ++ ((rS m L U C A).users.drop (j + 1)).take ((rS m L U C A).users.length - (j + 1)) = (mdelL u U).map (uref (mdelL u C)) := by
   rw [hUC, del_cut hj.get hj.pre, List.map_append, List.map_take, List.map_drop, List.nil_append, List.drop_zero]
   congr 1
   rw [List.take_of_length_le (by rw [List.length_drop]; omega)]
  rw [hf]
  first | (rw [hx]; rfl) | (have hx2 := hx; simp only [Nat.sub_zero, List.drop_zero] at hx2 ⊢; rw [hx2]; rfl)
 ·rw [hr, Option.bind_some, if_pos (show decide ((-1 : Int) < 0) = true by decide), hf, del_none hf, del_none (h.cu u hf)]
  rfl
theorem locked_both (m : Int × Int) {L : LL} {U : UL} {C : List (Str × Int)} {A : AT} (h : PI L U C A) (u : Str) (now : Int) :
  ∃ b, login_Logins_Locked (stM m L U C A) u now = some b ∧ ref39_Logins_Locked (rS m L U C A) u now = some b := by
 have hmade : ref39_made (rS m L U C A) = some true := rfl
 refine ⟨lockedS L u now, ?_, ?_⟩
 ·unfold login_Logins_Locked
  simp only [ready_eq, Option.bind_some, if_true, optC_some_eq, locked_eq]
 ·unfold ref39_Logins_Locked
  simp only [hmade, Option.bind_some, if_true, optC_some_eq, rlocked_eq m.1 100 m.2 h.lk]
theorem plays_loop (m : Int × Int) (l : List law39_Op) (hl : l.length ≤ 20) (hs : ∀ o ∈ l, small o) : ∀ (s : List law39_Op) (i n : Nat) (L : LL) (U : UL) (C : List (Str × Int)) (A : AT), l.drop i = s → s.length < n → PI L U C A →
  law39_LoginPlays_L1 n l (stM m L U C A) (rS m L U C A) (i : Int) = some true := by
 intro s
 induction s with
 | nil =>
  intro i n L U C A hd hn h
  obtain ⟨n, rfl⟩ : ∃ k, n = k + 1 := ⟨n - 1, by simp at hn; omega⟩
  have := drop_nil hd
  unfold law39_LoginPlays_L1
  rw [if_neg (by simp; omega), alive39]; rfl
 | cons o s ih =>
  intro i n L U C A hd hn h
  obtain ⟨n, rfl⟩ : ∃ k, n = k + 1 := ⟨n - 1, by simp at hn; omega⟩
  obtain ⟨g1, g2, g3⟩ := drop_more hd
  have hlt := drop_lt hd
  have ho := hs o (List.mem_of_getElem? g2)
  have two : ∀ L U C A, PI L U C A → law39_LoginPlays_B2 (law39_LoginPlays_L1 n) l (stM m L U C A) (rS m L U C A) (i : Int) true = some true := by
   intro L U C A h'
   unfold law39_LoginPlays_B2
   rw [if_neg (by simp), w64n (show i < 9223372036854775807 by omega)]
   exact ih (i + 1) n L U C A g3 (by simp at hn; omega) h'
  unfold law39_LoginPlays_L1
  rw [if_pos (by simp; omega), idx_n, g2, Option.bind_some]
  split
  ·obtain ⟨v, hv, hf⟩ := verifier_eq o ho
   obtain ⟨e, L', U', C', A', h1, h2, h3⟩ := enroll_both m h o.User v o.Code (fits300 ho.u) hf (fits300 ho.c)
   simp only [hv, h1, h2, Option.bind_some, beq_self_eq_true]
   exact two _ _ _ _ h3
  split
  ·obtain ⟨e, L', U', C', A', h1, h2, h3⟩ := begin_both m h o.ID o.User o.Now (fits300 ho.i) (fits300 ho.u)
   simp only [h1, h2, Option.bind_some, beq_self_eq_true]
   exact two _ _ _ _ h3
  split
  ·obtain ⟨e, L', U', C', A', h1, h2, h3⟩ := pw_both m h o.ID o.Word o.Now (fits300 ho.w)
   simp only [h1, h2, Option.bind_some, beq_self_eq_true]
   exact two _ _ _ _ h3
  split
  ·obtain ⟨c, hc, hf⟩ := typed_eq o ho
   obtain ⟨e, L', U', C', A', h1, h2, h3⟩ := code_both m h o.ID c o.Now hf
   simp only [hc, h1, h2, Option.bind_some, beq_self_eq_true]
   exact two _ _ _ _ h3
  split
  ·obtain ⟨u, ps, e, L', U', C', A', h1, h2, h4, h3⟩ := finish_both m h o.ID o.Level o.Now
   simp only [h1, h2, Option.bind_some, beq_self_eq_true, if_true, same_ps h4, Bool.and_self]
   exact two _ _ _ _ h3
  split
  ·obtain ⟨b, h1, h2⟩ := locked_both m h o.User o.Now
   simp only [h1, h2, Option.bind_some, beq_self_eq_true]
   exact two _ _ _ _ h
  split
  ·obtain ⟨b, L', U', C', A', h1, h2, h3⟩ := drop_both m h o.User
   simp only [h1, h2, Option.bind_some, beq_self_eq_true]
   exact two _ _ _ _ h3
  ·have hlen := h.len
   rw [open_eq m L U C A o.Now h.nd (by omega), ropen39 m h o.Now]
   simp only [Option.bind_some, beq_self_eq_true]
   exact two _ _ _ _ h
theorem optC_none_eq {A B : Type} (k0 : Option B) (k1 : A → Option B) : optC (none : Option A) k0 k1 = k0 := rfl
theorem PI.nil : PI [] [] [] [] := ⟨invL_nil, nodupK_nil, by simp, (fun p hp => by cases hp), nodupK_nil, (fun _ _ => rfl), nodupK_nil, by simp, (fun p hp => by cases hp)⟩
theorem plays_true (most lock : Int) (l : List law39_Op) (hf : fits l) : law39_LoginPlays most lock l = some true := by
 have hx : ∃ b, law39_few l = some b ∧ (b = true → l.length ≤ 20 ∧ ∀ o ∈ l, small o) := by
  rcases few_gate l hf with h | ⟨h, hl, hs⟩
  ·exact ⟨_, h, fun q => by cases q⟩
  ·exact ⟨_, h, fun _ => ⟨hl, hs⟩⟩
 obtain ⟨b, hb, hs⟩ := hx
 unfold law39_LoginPlays
 rw [hb, Option.bind_some]
 cases b with
 | false => simp [alive39]
 | true =>
  obtain ⟨hl, hs⟩ := hs rfl
  rw [if_neg (by simp)]
  have hw : lim 100 = 100 := rfl
  unfold login_New ref39_New
  rw [new_eq, rnew_eq, hw]
  cases newE most 100 lock with
  | true =>
   simp only [if_true, Option.bind_some, optC_none_eq, alive39]
   rfl
  | false =>
   simp only [Bool.false_eq_true, if_false, Option.bind_some, optC_some_eq]
   exact plays_loop (most, lim lock) l hl hs l 0 fuel [] [] [] [] rfl (fuel_big (by omega)) PI.nil
end Go.KW.S
