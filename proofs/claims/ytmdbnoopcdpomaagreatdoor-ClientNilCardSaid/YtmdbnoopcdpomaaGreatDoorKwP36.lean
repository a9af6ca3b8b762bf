/- Own work: a part of the proofs of this seat. -/
import Derived.Test.YtmdbnoopcdpomaaGreatDoorKwPlain
import Derived.Test.YtmdbnoopcdpomaaGreatDoorKwMapP
import Derived.Test.YtmdbnoopcdpomaaGreatDoorKwFS
import Derived.KernelRfl
import Derived.Lib.IndexMore
import Derived.Lib.CountLaws
import Derived.Laws.RangeString
import Derived.Laws.RangeAny
set_option linter.unusedVariables false
set_option linter.unusedSimpArgs false
namespace Go.KW.S
open Go Go.KW
/-! ### words -/
def isW (c : Int) : Bool := (((decide (c ≥ 65) && decide (c ≤ 90)) || (decide (c ≥ 97) && decide (c ≤ 122))) || (decide (c ≥ 48) && decide (c ≤ 57))) || c == 45 || c == 95 || c == 46 || c == 58
def word (s : Str) : Bool := s.all (fun u => isW u.toNat) && (decide (1 ≤ s.length) && decide (s.length ≤ 64))

/-! ### values: printable strings -/
def prt (u : UInt8) : Bool := decide (32 ≤ u.toNat) && decide (u.toNat ≤ 126)
def clean (s : Str) : Bool := s.all prt && (decide (1 ≤ s.length) && decide (s.length ≤ 256)) && (!(s.head? == some 32) && !(s.getLast? == some 32))
/-! ### verifiers -/
def hexB (u : UInt8) : Bool := (decide (48 ≤ u.toNat) && decide (u.toNat ≤ 57)) || (decide (97 ≤ u.toNat) && decide (u.toNat ≤ 102))
def hc4 (b : Bool) : Int := if b then 0 else 4
def hexOK (s : Str) : Bool := decide (s.length = 16) && s.all hexB
def vldS (v : api_Verifier) : Bool := ((word v.Salt && decide (v.Rounds ≥ 1)) && decide (v.Rounds ≤ 64)) && hexOK v.Hash
def zvS : api_Verifier := ⟨[], 0, []⟩
/-- two dots in a row -/
def dots : Str → Bool
  | a :: b :: r => (a == 46 && b == 46) || dots (b :: r)
  | _ => false
def valid (s : Str) : Bool := word s && !(s.head? == some 46) && !(s.getLast? == some 46) && !dots s
/-- the first error of a list of scopes, p being those before -/
def ckL : List Str → List Str → Int
  | _, [] => 0
  | p, x :: r => if !valid x then 5 else if p.contains x then 7 else ckL (p ++ [x]) r
def ck (l : List Str) : Int := if decide ((l.length : Int) > 16) then 3 else ckL [] l
/-- each string can be held -/
def fitsAll (l : List Str) : Prop := ∀ s ∈ l, fits s
theorem fitsAll_at {l : List Str} (h : fitsAll l) {i : Nat} {x : Str} (hx : l[i]? = some x) : fits x := h x (List.mem_of_getElem? hx)
/-! ### one scope within another -/
def pre (a b : Str) : Bool := decide (b.length > a.length) && (b.take (a.length + 1) == a ++ [46])
def imp (a b : Str) : Bool := (valid a && valid b) && (a == b || pre a b)
/-- few enough strings that can be held -/
def sm (l : List Str) : Prop := l.length ≤ 1000 ∧ fitsAll l
theorem sm.at {l : List Str} (h : sm l) {i : Nat} {x : Str} (hx : l[i]? = some x) : fits x := fitsAll_at h.2 hx
/-! ### clients -/
theorem alive36 : law36_alive = some true := by kernel_rfl
def httpsS : Str := [104, 116, 116, 112, 115, 58, 47, 47]
def adr (s : Str) : Bool := (clean s && (s.take 8 == httpsS)) && !s.contains 35
/-! ### redirects -/
def rdL : List Str → List Str → Int
  | _, [] => 0
  | p, x :: r => if !adr x then 4 else if p.contains x then 7 else rdL (p ++ [x]) r
def rdS (l : List Str) : Int := if (l.length : Int) == 0 then 6 else if decide ((l.length : Int) > 8) then 3 else rdL [] l
/-! ### Check -/
def orI (a b : Int) : Int := if a != 0 then a else b
def lgC (lo : Str) : Int := if !(lo == []) && !adr lo then 4 else 0
def fitC (c : api_Client) : Bool := if c.Kind == 2 then vldS c.Secret else api_Verifier.eqb c.Secret zvS
def ckC (c : api_Client) : Int :=
  if !word c.ID || !word c.Tenant then 5 else if (c.Kind != 1) && (c.Kind != 2) then 2 else if !fitC c then 4 else orI (rdS c.Redirects) (orI (ck c.Scopes) (lgC c.Logout))
structure fitsC (c : api_Client) : Prop where
  id : fits c.ID
  tenant : fits c.Tenant
  salt : fits c.Secret.Salt
  logout : fits c.Logout
  reds : fitsAll c.Redirects
  reds' : fits c.Redirects
  scs : fitsAll c.Scopes
/-! ### gates -/
def shortL (l : List Str) : Prop := l.length ≤ 20 ∧ ∀ s ∈ l, s.length ≤ 300
theorem shortL.fa {l : List Str} (h : shortL l) : fitsAll l := fun s hs => by have := h.2 s hs; unfold fits; omega
theorem shortL.f {l : List Str} (h : shortL l) : fits l := by have := h.1; unfold fits; omega
theorem shortL.sm {l : List Str} (h : shortL l) : sm l := ⟨by have := h.1; omega, h.fa⟩
theorem short_gate (l : List Str) (hf : fits l) : law36_short l = some false ∨ (law36_short l = some true ∧ shortL l) := by
  unfold fits at hf
  have key : ∀ (r : List Str) (i n : Nat), l.drop i = r → i ≤ l.length → r.length < n → (∀ s ∈ l.take i, s.length ≤ 300) → law36_short_L1 n l (i : Int) = some false ∨ (law36_short_L1 n l (i : Int) = some true ∧ shortL l) := by
    intro r
    induction r with
    | nil =>
      intro i n hd hi hn ht
      obtain ⟨n, rfl⟩ : ∃ k, n = k + 1 := ⟨n - 1, by simp at hn; omega⟩
      have := drop_nil hd
      rw [List.take_of_length_le (by omega)] at ht
      simp only [law36_short_L1, show ¬ ((i : Int) < l.length) by omega, decide_false, Bool.false_eq_true, if_false]
      by_cases h20 : l.length ≤ 20
      · exact .inr ⟨by simp; omega, h20, ht⟩
      · exact .inl (by simp; omega)
    | cons x r ih =>
      intro i n hd hi hn ht
      obtain ⟨n, rfl⟩ : ∃ k, n = k + 1 := ⟨n - 1, by simp at hn; omega⟩
      obtain ⟨h1, h2, h3⟩ := drop_more hd
      have hlt := drop_lt hd
      simp only [law36_short_L1, show ((i : Int) < l.length) by omega, decide_true, if_true, idx_n, h2, Option.bind_some, w64n (show i < 9223372036854775807 by omega)]
      by_cases hx : x.length ≤ 300
      · rw [if_neg (by simp; omega)]
        refine ih (i + 1) n h3 (by omega) (by simp at hn; omega) fun s hs => ?_
        rw [take_more hd] at hs
        rcases List.mem_append.1 hs with hs | hs
        · exact ht s hs
        · simp at hs; subst hs; exact hx
      · exact .inl (by rw [if_pos (by simp; omega)])
  exact key l 0 fuel rfl (by omega) (fuel_pos hf) (by simp)
structure smallC (c : api_Client) : Prop where
  id : c.ID.length ≤ 300
  tenant : c.Tenant.length ≤ 300
  logout : c.Logout.length ≤ 300
  salt : c.Secret.Salt.length ≤ 300
  hash : c.Secret.Hash.length ≤ 300
  reds : shortL c.Redirects
  scs : shortL c.Scopes
theorem smallC.fits {c : api_Client} (h : smallC c) : fitsC c :=
  ⟨by have := h.id; unfold S.fits; omega, by have := h.tenant; unfold S.fits; omega, by have := h.salt; unfold S.fits; omega, by have := h.logout; unfold S.fits; omega, h.reds.fa, h.reds.f, h.scs.fa⟩
theorem small_gate (c : api_Client) (h1 : fits c.Redirects) (h2 : fits c.Scopes) : law36_small c = some false ∨ (law36_small c = some true ∧ smallC c) := by
  unfold law36_small
  cases hb : ((((decide ((c.ID.length : Int) ≤ 300)) && (decide ((c.Tenant.length : Int) ≤ 300))) && (decide ((c.Logout.length : Int) ≤ 300))) && (decide ((c.Secret.Salt.length : Int) ≤ 300))) && (decide ((c.Secret.Hash.length : Int) ≤ 300)) with
  | false => exact .inl rfl
  | true =>
    simp only [Bool.and_eq_true, decide_eq_true_eq] at hb
    rcases short_gate c.Redirects h1 with h | ⟨h, hr⟩
    · exact .inl (by rw [if_pos rfl, h]; rfl)
    · rcases short_gate c.Scopes h2 with h' | ⟨h', hs⟩
      · exact .inl (by rw [if_pos rfl, h, h']; rfl)
      · exact .inr ⟨by rw [if_pos rfl, h, h']; rfl, ⟨by omega, by omega, by omega, by omega, by omega, hr, hs⟩⟩
structure smallO (o : law36_Op) : Prop where
  client : smallC o.Client
  id : o.ID.length ≤ 300
  s : o.S.length ≤ 300
  scs : shortL o.Scopes
def opF (o : law36_Op) : Prop := (fits o.Client.Redirects ∧ fits o.Client.Scopes) ∧ fits o.Scopes
theorem few_gate (l : List law36_Op) (hf : fits l) (ho : ∀ o ∈ l, opF o) : law36_few l = some false ∨ (law36_few l = some true ∧ l.length ≤ 12 ∧ ∀ o ∈ l, smallO o) := by
  unfold fits at hf
  have key : ∀ (r : List law36_Op) (i n : Nat), l.drop i = r → i ≤ l.length → r.length < n → (∀ s ∈ l.take i, smallO s) → law36_few_L1 n l (i : Int) = some false ∨ (law36_few_L1 n l (i : Int) = some true ∧ l.length ≤ 12 ∧ ∀ o ∈ l, smallO o) := by
    intro r
    induction r with
    | nil =>
      intro i n hd hi hn ht
      obtain ⟨n, rfl⟩ : ∃ k, n = k + 1 := ⟨n - 1, by simp at hn; omega⟩
      have := drop_nil hd
      rw [List.take_of_length_le (by omega)] at ht
      simp only [law36_few_L1, show ¬ ((i : Int) < l.length) by omega, decide_false, Bool.false_eq_true, if_false]
      by_cases h20 : l.length ≤ 12
      · exact .inr ⟨by simp; omega, h20, ht⟩
      · exact .inl (by simp; omega)
    | cons x r ih =>
      intro i n hd hi hn ht
      obtain ⟨n, rfl⟩ : ∃ k, n = k + 1 := ⟨n - 1, by simp at hn; omega⟩
      obtain ⟨h1, h2, h3⟩ := drop_more hd
      have hlt := drop_lt hd
      obtain ⟨⟨g1, g2⟩, g3⟩ := ho x (List.mem_of_getElem? h2)
      simp only [law36_few_L1, show ((i : Int) < l.length) by omega, decide_true, if_true, idx_n, h2, Option.bind_some, w64n (show i < 9223372036854775807 by omega)]
      rcases small_gate x.Client g1 g2 with h | ⟨h, hc⟩
      · exact .inl (by rw [h]; rfl)
      · rw [h]
        simp only [Option.bind_some, Bool.not_true, Bool.false_eq_true, if_false]
        by_cases hid : x.ID.length ≤ 300
        · rw [show decide ((x.ID.length : Int) > 300) = false by simp; omega]
          simp only [Bool.false_eq_true, if_false, Option.bind_some]
          by_cases hs : x.S.length ≤ 300
          · rw [show decide ((x.S.length : Int) > 300) = false by simp; omega]
            simp only [Bool.false_eq_true, if_false, Option.bind_some]
            rcases short_gate x.Scopes g3 with h' | ⟨h', hsc⟩
            · exact .inl (by rw [h']; rfl)
            · rw [h']
              simp only [Option.bind_some, Bool.not_true, Bool.false_eq_true, if_false]
              refine ih (i + 1) n h3 (by omega) (by simp at hn; omega) fun o hoo => ?_
              rw [take_more hd] at hoo
              rcases List.mem_append.1 hoo with hoo | hoo
              · exact ht o hoo
              · simp at hoo; subst hoo; exact ⟨hc, hid, hs, hsc⟩
          · exact .inl (by rw [show decide ((x.S.length : Int) > 300) = true by simp; omega]; rfl)
        · exact .inl (by rw [show decide ((x.ID.length : Int) > 300) = true by simp; omega]; rfl)
  exact key l 0 fuel rfl (by omega) (fuel_pos hf) (by simp)
/-! ### the registry -/
abbrev CL := List (Str × api_Client)
def zc : api_Client := ⟨[], 0, [], ⟨[], 0, []⟩, [], [], []⟩
structure CInv (l : CL) (N : Nat) : Prop where
  nd : nodupK l
  len : l.length ≤ N
  good : ∀ p ∈ l, p.2.ID = p.1 ∧ ckC p.2 = 0 ∧ smallC p.2
theorem CInv.mono {l : CL} {N M : Nat} (h : CInv l N) (hm : N ≤ M) : CInv l M := ⟨h.nd, Nat.le_trans h.len hm, h.good⟩
theorem CInv.at {l : CL} {N : Nat} (h : CInv l N) {id : Str} {c : api_Client} (hc : mfind id l = some c) : c.ID = id ∧ ckC c = 0 ∧ smallC c := h.good _ (mfind_mem hc)
def getR (l : CL) (id : Str) : api_Client × Bool := match mfind id l with | none => (zc, false) | some c => (c, true)
/-! ### a registry that New did not return -/
theorem nil_find : ∀ i, client_Clients_find__nil i = some (⟨[], 0, [], ⟨[], 0, []⟩, [], [], []⟩, 1) := fun _ => rfl
theorem none_find (i : Str) : client_Clients_find ⟨none⟩ i = some (⟨[], 0, [], ⟨[], 0, []⟩, [], [], []⟩, 1) := rfl
theorem own_none : ∃ c, client_own ⟨[], 0, [], ⟨[], 0, []⟩, [], [], []⟩ = some c := ⟨_, rfl⟩
theorem nil_true (o : law36_Op) (ho : opF o) : law36_ClientNil o = some true := by
  obtain ⟨c, hc⟩ := own_none
  have g1 : client_Clients_Get__nil o.ID = some (c, false) := by unfold client_Clients_Get__nil; rw [nil_find, Option.bind_some, hc]; rfl
  have g2 : client_Clients_Get ⟨none⟩ o.ID = some (c, false) := by unfold client_Clients_Get; rw [none_find, Option.bind_some, hc]; rfl
  have a1 : client_Clients_Register__nil o.Client = some 1 := rfl
  have a2 : client_Clients_Register ⟨none⟩ o.Client = some (1, ⟨none⟩) := rfl
  have b1 : client_Clients_Redirect__nil o.ID o.S = some 1 := rfl
  have b2 : client_Clients_Redirect ⟨none⟩ o.ID o.S = some 1 := rfl
  have c1 : client_Clients_Authenticate__nil o.ID o.S = some 1 := rfl
  have c2 : client_Clients_Authenticate ⟨none⟩ o.ID o.S = some 1 := rfl
  have d1 : client_Clients_Allowed__nil o.ID o.Scopes = some 1 := rfl
  have d2 : client_Clients_Allowed ⟨none⟩ o.ID o.Scopes = some 1 := rfl
  have e1 : client_Clients_Remove__nil o.ID = some false := rfl
  have e2 : client_Clients_Remove ⟨none⟩ o.ID = some (false, ⟨none⟩) := rfl
  have f1 : client_Clients_List__nil = some [] := rfl
  have f2 : client_Clients_List ⟨none⟩ = some [] := rfl
  unfold law36_ClientNil
  rcases few_gate [o] (by simp [fits]) (fun q hq => by simp at hq; subst hq; exact ho) with h | ⟨h, _⟩
  · rw [h, Option.bind_some, if_pos (show (!false) = true from rfl), alive36, Option.bind_some]
  · rw [h, Option.bind_some, if_neg (by simp)]
    simp [g1, g2, a1, a2, b1, b2, c1, c2, d1, d2, e1, e2, f1, f2, alive36]
end Go.KW.S
