/- Own work: a part of the proofs of this seat. -/
import Derived.Test.YtmdbnoopcdpomaaGreatDoorKwMap3
import Derived.Test.YtmdbnoopcdpomaaGreatDoorKwSeg2
import Derived.Test.YtmdbnoopcdpomaaGreatDoorKwKeys
import Derived.Test.YtmdbnoopcdpomaaGreatDoorKwGlob
import Derived.Test.YtmdbnoopcdpomaaGreatDoorKwOffs
import Derived.Test.YtmdbnoopcdpomaaGreatDoorKwMapR
import Derived.Test.YtmdbnoopcdpomaaGreatDoorKwOpt
set_option linter.unusedVariables false
namespace Go.KW.S
open Go Go.KW
def tab_digest_digits : List Int := [48, 49, 50, 51, 52, 53, 54, 55, 56, 57, 97, 98, 99, 100, 101, 102]
structure api_Verifier where
  Salt : Str
  Rounds : Int
  Hash : Str
  deriving DecidableEq
def api_Verifier.c : Cdc api_Verifier := Cdc.flat 3 (fun x => [str x.Salt, .int .i64 x.Rounds, str x.Hash]) (fun _ => rfl) (fun _ u h => by simp at h; rcases h with rfl | rfl | rfl <;> rfl)
def api_Verifier.eqb (x y : api_Verifier) : Bool := (x.Salt == y.Salt) && (x.Rounds == y.Rounds) && (x.Hash == y.Hash)
structure api_Client where
  ID : Str
  Kind : Int
  Tenant : Str
  Secret : api_Verifier
  Redirects : List Str
  Scopes : List Str
  Logout : Str
  deriving DecidableEq
def api_Client.c : Cdc api_Client :=
  { size := 9, rd := fun A w cs x => ∃ v0 v1, cs = [str x.ID, .int .i64 x.Kind, str x.Tenant, str x.Secret.Salt, .int .i64 x.Secret.Rounds, str x.Secret.Hash, v0, v1, str x.Logout] ∧ SlR strC A w v0 x.Redirects ∧ SlR strC A w v1 x.Scopes
    len := fun h => by obtain ⟨_, _, h, _⟩ := h; rw [h]; rfl
    one := fun h u hu => by
      obtain ⟨v0, v1, h, h0, h1⟩ := h
      subst h
      simp at hu
      rcases hu with rfl | rfl | rfl | rfl | rfl | rfl | rfl | rfl | rfl
      all_goals first | rfl | exact SlR.oneCell (by assumption)
    step := fun h s => by
      obtain ⟨v0, v1, h, h0, h1⟩ := h
      exact ⟨v0, v1, h, h0.step s, h1.step s⟩ }
structure client_Clients where
  of_ : GMap Str api_Client
  deriving DecidableEq
def client_Clients.O (τ : Nat → Nat) (ρ : Tags) (w : World) (g : Nat) (x : client_Clients) : Prop := ∃ v0, Blk ρ (τ 0) w g (.cells #[v0] 57 (0, 0)) ∧ MapT str api_Client.c true ρ (τ 1) w v0 x.of_
structure law36_Op where
  Kind : Int
  Client : api_Client
  ID : Str
  S : Str
  Scopes : List Str
  deriving DecidableEq
def law36_Op.c : Cdc law36_Op :=
  { size := 13, rd := fun A w cs x => ∃ v0 v1 v2, cs = [.int .i64 x.Kind, str x.Client.ID, .int .i64 x.Client.Kind, str x.Client.Tenant, str x.Client.Secret.Salt, .int .i64 x.Client.Secret.Rounds, str x.Client.Secret.Hash, v0, v1, str x.Client.Logout, str x.ID, str x.S, v2] ∧ SlR strC A w v0 x.Client.Redirects ∧ SlR strC A w v1 x.Client.Scopes ∧ SlR strC A w v2 x.Scopes
    len := fun h => by obtain ⟨_, _, _, h, _⟩ := h; rw [h]; rfl
    one := fun h u hu => by
      obtain ⟨v0, v1, v2, h, h0, h1, h2⟩ := h
      subst h
      simp at hu
      rcases hu with rfl | rfl | rfl | rfl | rfl | rfl | rfl | rfl | rfl | rfl | rfl | rfl | rfl
      all_goals first | rfl | exact SlR.oneCell (by assumption)
    step := fun h s => by
      obtain ⟨v0, v1, v2, h, h0, h1, h2⟩ := h
      exact ⟨v0, v1, v2, h, h0.step s, h1.step s, h2.step s⟩ }
structure ref36_Clients where
  list : List api_Client
  made : Bool
  deriving DecidableEq
def ref36_Clients.c : Cdc ref36_Clients :=
  { size := 2, rd := fun A w cs x => ∃ v0, cs = [v0, .bool x.made] ∧ SlR api_Client.c A w v0 x.list
    len := fun h => by obtain ⟨_, h, _⟩ := h; rw [h]; rfl
    one := fun h u hu => by
      obtain ⟨v0, h, h0⟩ := h
      subst h
      simp at hu
      rcases hu with rfl | rfl
      all_goals first | rfl | exact SlR.oneCell (by assumption)
    step := fun h s => by
      obtain ⟨v0, h, h0⟩ := h
      exact ⟨v0, h, h0.step s⟩ }
def ref36_Clients.O (τ : Nat → Nat) (ρ : Tags) (w : World) (g : Nat) (x : ref36_Clients) : Prop := ∃ v0, Blk ρ (τ 0) w g (.cells #[v0, .bool x.made] 73 (0, 0)) ∧ OwnT api_Client.c 27 ρ (τ 1) w v0 x.list
structure law36_Login where
  Password : Str
  Salt : Str
  Other : Str
  Rounds : Int
  deriving DecidableEq
def law36_Login.c : Cdc law36_Login := Cdc.flat 4 (fun x => [str x.Password, str x.Salt, str x.Other, .int .i64 x.Rounds]) (fun _ => rfl) (fun _ u h => by simp at h; rcases h with rfl | rfl | rfl | rfl <;> rfl)
def law36_Login.eqb (x y : law36_Login) : Bool := (x.Password == y.Password) && (x.Salt == y.Salt) && (x.Other == y.Other) && (x.Rounds == y.Rounds)
def law36_short_L1 : Nat → List Str → Int → Option (Bool)
  | 0, _, _ => none
  | n + 1, l_0, i_3 =>
    if decide (i_3 < (l_0.length : Int)) then
      (idx l_0 i_3).bind fun y4 =>
        if decide ((y4.length : Int) > 300) then
          some (false)
        else
          (law36_short_L1 n) l_0 (IntKind.i64.wrap (i_3 + 1))
    else
      some (decide ((l_0.length : Int) ≤ 20))
def law36_short (l_0 : List Str) : Option (Bool) :=
  law36_short_L1 fuel l_0 0
def law36_small (c_0 : api_Client) : Option (Bool) :=
  Option.bind (if ((((decide ((c_0.ID.length : Int) ≤ 300)) && (decide ((c_0.Tenant.length : Int) ≤ 300))) && (decide ((c_0.Logout.length : Int) ≤ 300))) && (decide ((c_0.Secret.Salt.length : Int) ≤ 300))) && (decide ((c_0.Secret.Hash.length : Int) ≤ 300)) then
      (law36_short c_0.Redirects).bind fun y50 =>
        some y50
    else
      some false
    ) fun z44 =>
    Option.bind (if z44 then
        (law36_short c_0.Scopes).bind fun y63 =>
          some y63
      else
        some false
      ) fun z57 =>
      some (z57)
def client_New : Option (client_Clients) :=
  some ((client_Clients.mk (some [] : GMap Str api_Client)))
def law36_app : Option (api_Client) :=
  some ((api_Client.mk ([97, 112, 112]) 1 ([116]) (api_Verifier.mk ([]) 0 ([])) ([[104, 116, 116, 112, 115, 58, 47, 47, 97, 112, 112, 47, 99, 98]] : List Str) ([[109, 97, 105, 108]] : List Str) ([])))
def client_Clients_ready (r_0 : client_Clients) : Option (Bool) :=
  some (!r_0.of_.isNone)
def fold_upper (c_0 : Int) : Option (Bool) :=
  some ((decide (c_0 ≥ 65)) && (decide (c_0 ≤ 90)))
def fold_letter (c_0 : Int) : Option (Bool) :=
  (fold_upper c_0).bind fun y1 =>
    some (y1 || ((decide (c_0 ≥ 97)) && (decide (c_0 ≤ 122))))
def fold_digit (c_0 : Int) : Option (Bool) :=
  some ((decide (c_0 ≥ 48)) && (decide (c_0 ≤ 57)))
def fold_Word_1 (c_0 : Int) : Option (Bool) :=
  (fold_letter c_0).bind fun y1 =>
    Option.bind (if y1 then
        some true
      else
        (fold_digit c_0).bind fun y12 =>
          some y12
      ) fun z7 =>
      some ((((z7 || (c_0 == 45)) || (c_0 == 95)) || (c_0 == 46)) || (c_0 == 58))
def fold_made__Word_1_L1 : Nat → Str → Int → Int → Option (Bool)
  | 0, _, _, _ => none
  | n + 1, s_0, t_7, t_8 =>
    if decide (t_8 < t_7) then
      chk (inb t_8 s_0.length) (
        (fold_Word_1 (byteAt s_0 t_8)).bind fun y3 =>
          if !y3 then
            some (false)
          else
            (fold_made__Word_1_L1 n) s_0 t_7 (IntKind.i64.wrap (t_8 + 1)))
    else
      some ((!(s_0 == ([]))) && (decide ((s_0.length : Int) ≤ 64)))
def fold_made__Word_1 (s_0 : Str) : Option (Bool) :=
  fold_made__Word_1_L1 fuel s_0 (s_0.length : Int) 0
def fold_Word (s_0 : Str) : Option (Bool) :=
  (fold_made__Word_1 s_0).bind fun y1 =>
    some (y1)
def digest_ReadHex_B3 (r0 : Str → Int → Int → Int → Option (Int × Int)) (r1 : Str → Int → Int → Int → Int → Int → Int → Option (Int × Int)) (s_0 : Str) (n_4 : Int) (i_5 : Int) (v_6 : Int) (t_13 : Int) (t_14 : Int) (t_18 : Int) : Option (Int × Int) :=
  r1 s_0 n_4 i_5 v_6 t_13 t_14 (IntKind.i64.wrap (t_18 + 1))
def digest_ReadHex_L2 (r0 : Str → Int → Int → Int → Option (Int × Int)) : Nat → Str → Int → Int → Int → Int → Int → Int → Option (Int × Int)
  | 0, _, _, _, _, _, _, _ => none
  | n + 1, s_0, n_4, i_5, v_6, t_13, t_14, t_18 =>
    if decide (t_18 < 16) then
      (idx tab_digest_digits t_18).bind fun y4 =>
        chk (inb i_5 s_0.length) (
          if y4 == (byteAt s_0 i_5) then
            digest_ReadHex_B3 r0 (digest_ReadHex_L2 r0 n) s_0 n_4 i_5 t_18 t_13 t_14 t_18
          else
            digest_ReadHex_B3 r0 (digest_ReadHex_L2 r0 n) s_0 n_4 i_5 v_6 t_13 t_14 t_18)
    else
      if decide (v_6 < 0) then
        some (0, 4)
      else
        r0 s_0 (bOr .u64 (bShl .u64 n_4 4) (IntKind.u64.wrap v_6)) t_13 (IntKind.i64.wrap (t_14 + 1))
def digest_ReadHex_L1 : Nat → Str → Int → Int → Int → Option (Int × Int)
  | 0, _, _, _, _ => none
  | n + 1, s_0, n_4, t_13, t_14 =>
    if decide (t_14 < t_13) then
      digest_ReadHex_L2 (digest_ReadHex_L1 n) fuel s_0 n_4 t_14 (-1) t_13 t_14 0
    else
      some (n_4, 0)
def digest_ReadHex (s_0 : Str) : Option (Int × Int) :=
  if (s_0.length : Int) != 16 then
    some (0, 4)
  else
    digest_ReadHex_L1 fuel s_0 0 (s_0.length : Int) 0
def secret_Valid (v_0 : api_Verifier) : Option (Bool) :=
  (digest_ReadHex v_0.Hash).bind fun y8 =>
    (fold_Word v_0.Salt).bind fun y12 =>
      some (((y12 && (decide (v_0.Rounds ≥ 1))) && (decide (v_0.Rounds ≤ 64))) && (y8.2 == 0))
def client_secretFits (c_0 : api_Client) : Option (Bool) :=
  if c_0.Kind == 2 then
    (secret_Valid c_0.Secret).bind fun y11 =>
      some (y11)
  else
    some (api_Verifier.eqb c_0.Secret (api_Verifier.mk ([]) 0 ([])))
def fold_Trim (s_0 : Str) : Option (Str) :=
  (lib_Trim s_0 ([32])).bind fun y1 =>
    some (y1)
def fold_Clean_L1 : Nat → Str → Str → Nat → Option (Bool)
  | 0, _, _, _ => none
  | n + 1, s_0, t_6s, t_6p =>
    if decide (t_6p < t_6s.length) then
      if (decide (((sdec t_6s t_6p).1) < 32)) || (decide (((sdec t_6s t_6p).1) > 126)) then
        some (false)
      else
        (fold_Clean_L1 n) s_0 t_6s (t_6p + (sdec t_6s t_6p).2)
    else
      Option.bind (if (!(s_0 == ([]))) && (decide ((s_0.length : Int) ≤ 256)) then
          (fold_Trim s_0).bind fun y33 =>
            some (y33 == s_0)
        else
          some false
        ) fun z28 =>
        some (z28)
def fold_Clean (s_0 : Str) : Option (Bool) :=
  fold_Clean_L1 fuel s_0 s_0 0
def internal_stringslite_HasPrefix (s_0 : Str) (prefix_1 : Str) : Option (Bool) :=
  Option.bind (if decide ((s_0.length : Int) ≥ (prefix_1.length : Int)) then
      chk (inc 0 (prefix_1.length : Int) s_0.length) (
        some ((cut s_0 0 (prefix_1.length : Int)) == prefix_1))
    else
      some false
    ) fun z3 =>
    some (z3)
def strings_HasPrefix (s_0 : Str) (prefix_1 : Str) : Option (Bool) :=
  (internal_stringslite_HasPrefix s_0 prefix_1).bind fun y1 =>
    some (y1)
def client_address (s_0 : Str) : Option (Bool) :=
  (fold_Clean s_0).bind fun y1 =>
    Option.bind (if y1 then
        (strings_HasPrefix s_0 ([104, 116, 116, 112, 115, 58, 47, 47])).bind fun y12 =>
          some y12
      else
        some false
      ) fun z7 =>
      Option.bind (if z7 then
          (lib_Contains s_0 ([35])).bind fun y23 =>
            some (!y23)
        else
          some false
        ) fun z18 =>
        some (z18)
def client_redirects_1 (s_0 : Str) : Option (Bool) :=
  (client_address s_0).bind fun y1 =>
    some (!y1)
def slices_Index_string_string_L1 : Nat → List Str → Str → Int → Int → Option (Int)
  | 0, _, _, _, _ => none
  | n + 1, s_0, v_1, t_7, t_8 =>
    if decide (t_8 < t_7) then
      (idx s_0 t_8).bind fun y4 =>
        if v_1 == y4 then
          some (t_8)
        else
          (slices_Index_string_string_L1 n) s_0 v_1 t_7 (IntKind.i64.wrap (t_8 + 1))
    else
      some ((-1))
def slices_Index_string_string (s_0 : List Str) (v_1 : Str) : Option (Int) :=
  slices_Index_string_string_L1 fuel s_0 v_1 (s_0.length : Int) 0
def slices_Contains_string_string (s_0 : List Str) (v_1 : Str) : Option (Bool) :=
  (slices_Index_string_string s_0 v_1).bind fun y3 =>
    some (decide (y3 ≥ 0))
def client_first_string__redirects_1_L1 : Nat → List Str → List Str → Int → Int → Option (Int)
  | 0, _, _, _, _ => none
  | n + 1, l_0, t_7, t_8, t_9 =>
    if decide (t_9 < t_8) then
      (idx t_7 t_9).bind fun y4 =>
        (client_redirects_1 y4).bind fun y10 =>
          if y10 then
            some (4)
          else
            chk (inc 0 t_9 l_0.length) (
              (slices_Contains_string_string (cut l_0 0 t_9) y4).bind fun y18 =>
                if y18 then
                  some (7)
                else
                  (client_first_string__redirects_1_L1 n) l_0 t_7 t_8 (IntKind.i64.wrap (t_9 + 1)))
    else
      some (0)
def client_first_string__redirects_1 (l_0 : List Str) : Option (Int) :=
  client_first_string__redirects_1_L1 fuel l_0 l_0 (l_0.length : Int) 0
def client_redirects (l_0 : List Str) : Option (Int) :=
  if (l_0.length : Int) == 0 then
    some (6)
  else
    if decide ((l_0.length : Int) > 8) then
      some (3)
    else
      (client_first_string__redirects_1 l_0).bind fun y5 =>
        some (y5)
def scope_valid (s_0 : Str) : Option (Bool) :=
  (fold_Word s_0).bind fun y1 =>
    Option.bind (if y1 then
        chk (inb 0 s_0.length) (
          some ((byteAt s_0 0) != 46))
      else
        some false
      ) fun z7 =>
      Option.bind (if z7 then
          chk (inb (IntKind.i64.wrap ((s_0.length : Int) - 1)) s_0.length) (
            some ((byteAt s_0 (IntKind.i64.wrap ((s_0.length : Int) - 1))) != 46))
        else
          some false
        ) fun z15 =>
        Option.bind (if z15 then
            (lib_Contains s_0 ([46, 46])).bind fun y28 =>
              some (!y28)
          else
            some false
          ) fun z23 =>
          some (z23)
def scope_Check_L1 : Nat → List Str → List Str → Int → Int → Option (Int)
  | 0, _, _, _, _ => none
  | n + 1, l_0, t_8, t_9, t_10 =>
    if decide (t_10 < t_9) then
      (idx t_8 t_10).bind fun y5 =>
        (scope_valid y5).bind fun y11 =>
          if !y11 then
            some (5)
          else
            chk (inc 0 t_10 l_0.length) (
              (slices_Contains_string_string (cut l_0 0 t_10) y5).bind fun y19 =>
                if y19 then
                  some (7)
                else
                  (scope_Check_L1 n) l_0 t_8 t_9 (IntKind.i64.wrap (t_10 + 1)))
    else
      some (0)
def scope_Check (l_0 : List Str) : Option (Int) :=
  if decide ((l_0.length : Int) > 16) then
    some (3)
  else
    scope_Check_L1 fuel l_0 l_0 (l_0.length : Int) 0
def client_Check (c_0 : api_Client) : Option (Int) :=
  (fold_Word c_0.ID).bind fun y10 =>
    Option.bind (if !y10 then
        some true
      else
        (fold_Word c_0.Tenant).bind fun y23 =>
          some (!y23)
      ) fun z17 =>
      if z17 then
        some (5)
      else
        if (c_0.Kind != 1) && (c_0.Kind != 2) then
          some (2)
        else
          (client_secretFits c_0).bind fun y38 =>
            if !y38 then
              some (4)
            else
              (client_redirects c_0.Redirects).bind fun y44 =>
                if y44 != 0 then
                  some (y44)
                else
                  (scope_Check c_0.Scopes).bind fun y50 =>
                    if y50 != 0 then
                      some (y50)
                    else
                      Option.bind (if !(c_0.Logout == ([])) then
                          (client_address c_0.Logout).bind fun y64 =>
                            some (!y64)
                        else
                          some false
                        ) fun z58 =>
                        if z58 then
                          some (4)
                        else
                          some (0)
def client_own_B1 (c_1_0 : Str) (c_1_1 : Int) (c_1_2 : Str) (c_1_3 : Str) (c_1_4 : Int) (c_1_5 : Str) (c_1_6 : List Str) (c_1_7 : List Str) (c_1_8 : Str) (t_2_0 : Str) (t_2_1 : Int) (t_2_2 : Str) (t_2_3 : Str) (t_2_4 : Int) (t_2_5 : Str) (t_2_6 : List Str) (t_2_7 : List Str) (t_2_8 : Str) : Option (api_Client) :=
  some ((api_Client.mk c_1_0 c_1_1 c_1_2 (api_Verifier.mk c_1_3 c_1_4 c_1_5) c_1_6 c_1_7 c_1_8))
def client_own (c_0 : api_Client) : Option (api_Client) :=
  (lib_Clone c_0.Redirects).bind fun y152 =>
    (lib_Clone c_0.Scopes).bind fun y162 =>
      client_own_B1 c_0.ID c_0.Kind c_0.Tenant c_0.Secret.Salt c_0.Secret.Rounds c_0.Secret.Hash y152 y162 c_0.Logout ([]) 0 ([]) ([]) 0 ([]) ([] : List Str) ([] : List Str) ([])
def client_Clients_Register (r_0 : client_Clients) (c_1 : api_Client) : Option (Int × client_Clients) :=
  (client_Clients_ready r_0).bind fun y13 =>
    if !y13 then
      some (1, r_0)
    else
      (client_Check c_1).bind fun y19 =>
        if y19 != 0 then
          some (y19, r_0)
        else
          (some (mgetD r_0.of_ c_1.ID (api_Client.mk ([]) 0 ([]) (api_Verifier.mk ([]) 0 ([])) ([] : List Str) ([] : List Str) ([])))).bind fun y71 =>
            if (!(mhas r_0.of_ c_1.ID)) && (decide ((mlen r_0.of_) ≥ 256)) then
              some (3, r_0)
            else
              (client_own c_1).bind fun y128 =>
                chk r_0.of_.isSome (
                  some (0, (client_Clients.mk (mput r_0.of_ c_1.ID y128))))
def client_Clients_find (r_0 : client_Clients) (id_1 : Str) : Option (api_Client × Int) :=
  (client_Clients_ready r_0).bind fun y13 =>
    if !y13 then
      some ((api_Client.mk ([]) 0 ([]) (api_Verifier.mk ([]) 0 ([])) ([] : List Str) ([] : List Str) ([])), 1)
    else
      (some (mgetD r_0.of_ id_1 (api_Client.mk ([]) 0 ([]) (api_Verifier.mk ([]) 0 ([])) ([] : List Str) ([] : List Str) ([])))).bind fun y25 =>
        if !(mhas r_0.of_ id_1) then
          some ((api_Client.mk ([]) 0 ([]) (api_Verifier.mk ([]) 0 ([])) ([] : List Str) ([] : List Str) ([])), 6)
        else
          some (y25, 0)
def client_Clients_Redirect (r_0 : client_Clients) (id_1 : Str) (address_2 : Str) : Option (Int) :=
  (client_Clients_find r_0 id_1).bind fun y4 =>
    Option.bind (if y4.2 == 0 then
        (slices_Contains_string_string y4.1.Redirects address_2).bind fun y28 =>
          some (!y28)
      else
        some false
      ) fun z22 =>
      if z22 then
        some (11)
      else
        some (y4.2)
def secret_isPassword_L1 : Nat → Str → Int → Int → Option (Bool)
  | 0, _, _, _ => none
  | n + 1, s_0, t_5, t_6 =>
    if decide (t_6 < t_5) then
      chk (inb t_6 s_0.length) (
        Option.bind (if decide ((byteAt s_0 t_6) < 32) then
            some true
          else
            chk (inb t_6 s_0.length) (
              some (decide ((byteAt s_0 t_6) > 126)))
          ) fun z5 =>
          if z5 then
            some (false)
          else
            (secret_isPassword_L1 n) s_0 t_5 (IntKind.i64.wrap (t_6 + 1)))
    else
      some ((decide ((s_0.length : Int) ≥ 8)) && (decide ((s_0.length : Int) ≤ 256)))
def secret_isPassword (s_0 : Str) : Option (Bool) :=
  secret_isPassword_L1 fuel s_0 (s_0.length : Int) 0
def digest_Sum_L1 : Nat → Str → Int → Int → Int → Option (Int)
  | 0, _, _, _, _ => none
  | n + 1, s_0, h_3, t_6, t_7 =>
    if decide (t_7 < t_6) then
      chk (inb t_7 s_0.length) (
        (digest_Sum_L1 n) s_0 (IntKind.u64.wrap ((bXor .u64 h_3 (IntKind.u64.wrap (byteAt s_0 t_7))) * 1099511628211)) t_6 (IntKind.i64.wrap (t_7 + 1)))
    else
      some (bXor .u64 (IntKind.u64.wrap ((bXor .u64 (IntKind.u64.wrap ((bXor .u64 h_3 (bShr .u64 h_3 33)) * 18397679294719823053)) (bShr .u64 (IntKind.u64.wrap ((bXor .u64 h_3 (bShr .u64 h_3 33)) * 18397679294719823053)) 33)) * 14181476777654086739)) (bShr .u64 (IntKind.u64.wrap ((bXor .u64 (IntKind.u64.wrap ((bXor .u64 h_3 (bShr .u64 h_3 33)) * 18397679294719823053)) (bShr .u64 (IntKind.u64.wrap ((bXor .u64 h_3 (bShr .u64 h_3 33)) * 18397679294719823053)) 33)) * 14181476777654086739)) 33))
def digest_Sum (s_0 : Str) : Option (Int) :=
  digest_Sum_L1 fuel s_0 14695981039346656037 (s_0.length : Int) 0
def digest_Hex_L1 : Nat → Int → List Int → Int → Option (Str)
  | 0, _, _, _ => none
  | n + 1, n_0, b_3, t_5 =>
    if decide (t_5 < 16) then
      chk (decide (0 ≤ IntKind.i64.wrap (4 * t_5))) (
        chk (inb (bAnd .u64 (bShr .u64 n_0 (IntKind.i64.wrap (4 * t_5))) 15) 16) (
          (idx tab_digest_digits (bAnd .u64 (bShr .u64 n_0 (IntKind.i64.wrap (4 * t_5))) 15)).bind fun y11 =>
            chk (inb (IntKind.i64.wrap (15 - t_5)) 16) (
              chk (inb (IntKind.i64.wrap (15 - t_5)) b_3.length) (
                (digest_Hex_L1 n) n_0 (setAt b_3 (IntKind.i64.wrap (15 - t_5)) y11) (IntKind.i64.wrap (t_5 + 1))))))
    else
      chk (b_3.length == 16) (
        some (bytesStr b_3))
def digest_Hex (n_0 : Int) : Option (Str) :=
  digest_Hex_L1 fuel n_0 ([0, 0, 0, 0, 0, 0, 0, 0, 0, 0, 0, 0, 0, 0, 0, 0]) 0
def digest_Text (s_0 : Str) : Option (Str) :=
  (digest_Sum s_0).bind fun y1 =>
    (digest_Hex y1).bind fun y5 =>
      some (y5)
def digest_Iterate_L1 : Nat → Str → Str → Int → Int → Option (Str)
  | 0, _, _, _, _ => none
  | n + 1, salt_0, h_7, t_15, t_16 =>
    if decide (t_16 < t_15) then
      chk (fitS h_7 ([124])) (
        chk (fitS (h_7 ++ ([124])) salt_0) (
          (digest_Text ((h_7 ++ ([124])) ++ salt_0)).bind fun y10 =>
            (digest_Iterate_L1 n) salt_0 y10 t_15 (IntKind.i64.wrap (t_16 + 1))))
    else
      some (h_7)
def digest_Iterate (salt_0 : Str) (s_1 : Str) (rounds_2 : Int) : Option (Str) :=
  chk (fitS salt_0 ([124])) (
    chk (fitS (salt_0 ++ ([124])) s_1) (
      (digest_Text ((salt_0 ++ ([124])) ++ s_1)).bind fun y3 =>
        digest_Iterate_L1 fuel salt_0 y3 (gmin (gmax rounds_2 0) 64) 0))
def secret_Check (v_0 : api_Verifier) (password_1 : Str) : Option (Bool) :=
  (secret_Valid v_0).bind fun y10 =>
    Option.bind (if y10 then
        (secret_isPassword password_1).bind fun y21 =>
          some y21
      else
        some false
      ) fun z16 =>
      Option.bind (if z16 then
          (digest_Iterate v_0.Salt password_1 v_0.Rounds).bind fun y32 =>
            some (v_0.Hash == y32)
        else
          some false
        ) fun z27 =>
        some (z27)
def client_accepts (c_0 : api_Client) (s_1 : Str) : Option (Bool) :=
  if c_0.Kind == 1 then
    some (s_1 == ([]))
  else
    (secret_Check c_0.Secret s_1).bind fun y11 =>
      some (y11)
def client_Clients_Authenticate (r_0 : client_Clients) (id_1 : Str) (secret_2 : Str) : Option (Int) :=
  (client_Clients_find r_0 id_1).bind fun y4 =>
    Option.bind (if y4.2 == 0 then
        (client_accepts y4.1 secret_2).bind fun y28 =>
          some (!y28)
      else
        some false
      ) fun z22 =>
      if z22 then
        some (11)
      else
        some (y4.2)
def scope_Implies (a_0 : Str) (b_1 : Str) : Option (Bool) :=
  (scope_valid a_0).bind fun y1 =>
    Option.bind (if y1 then
        (scope_valid b_1).bind fun y12 =>
          some y12
      else
        some false
      ) fun z7 =>
      Option.bind (if z7 then
          Option.bind (if a_0 == b_1 then
              some true
            else
              chk (fitS a_0 ([46])) (
                (strings_HasPrefix b_1 (a_0 ++ ([46]))).bind fun y31 =>
                  some y31)
            ) fun z25 =>
            some z25
        else
          some false
        ) fun z18 =>
        some (z18)
def scope_covered_L1 : Nat → Str → List Str → Int → Int → Option (Bool)
  | 0, _, _, _, _ => none
  | n + 1, s_0, t_7, t_8, t_9 =>
    if decide (t_9 < t_8) then
      (idx t_7 t_9).bind fun y4 =>
        (scope_Implies y4 s_0).bind fun y10 =>
          if y10 then
            some (true)
          else
            (scope_covered_L1 n) s_0 t_7 t_8 (IntKind.i64.wrap (t_9 + 1))
    else
      some (false)
def scope_covered (s_0 : Str) (l_1 : List Str) : Option (Bool) :=
  scope_covered_L1 fuel s_0 l_1 (l_1.length : Int) 0
def scope_Within_L1 : Nat → List Str → List Str → Int → Int → Option (Bool)
  | 0, _, _, _, _ => none
  | n + 1, b_1, t_7, t_8, t_9 =>
    if decide (t_9 < t_8) then
      (idx t_7 t_9).bind fun y6 =>
        (scope_covered y6 b_1).bind fun y12 =>
          if !y12 then
            some (false)
          else
            (scope_Within_L1 n) b_1 t_7 t_8 (IntKind.i64.wrap (t_9 + 1))
    else
      some (true)
def scope_Within (a_0 : List Str) (b_1 : List Str) : Option (Bool) :=
  scope_Within_L1 fuel b_1 a_0 (a_0.length : Int) 0
def client_Clients_Allowed (r_0 : client_Clients) (id_1 : Str) (scopes_2 : List Str) : Option (Int) :=
  (client_Clients_find r_0 id_1).bind fun y6 =>
    Option.bind (if y6.2 == 0 then
        (scope_Within scopes_2 y6.1.Scopes).bind fun y30 =>
          some (!y30)
      else
        some false
      ) fun z24 =>
      if z24 then
        some (19)
      else
        some (y6.2)
def client_Clients_List (r_0 : client_Clients) : Option (List Str) :=
  (client_Clients_ready r_0).bind fun y6 =>
    if !y6 then
      some (([] : List Str))
    else
      (lib_SortedKeys r_0.of_).bind fun y12 =>
        some (y12)
def ref07_Lists_L1 : Nat → List Str → List Str → Int → Option (Bool)
  | 0, _, _, _ => none
  | n + 1, a_0, b_1, i_5 =>
    if decide (i_5 < (a_0.length : Int)) then
      (idx a_0 i_5).bind fun y9 =>
        (idx b_1 i_5).bind fun y15 =>
          if !(y9 == y15) then
            some (false)
          else
            (ref07_Lists_L1 n) a_0 b_1 (IntKind.i64.wrap (i_5 + 1))
    else
      some (true)
def ref07_Lists (a_0 : List Str) (b_1 : List Str) : Option (Bool) :=
  if (a_0.length : Int) != (b_1.length : Int) then
    some (false)
  else
    ref07_Lists_L1 fuel a_0 b_1 0
def client_Clients_Remove_B1 (e_6 : Int) (ogr_0 : client_Clients) : Option (Bool × client_Clients) :=
  some (e_6 == 0, ogr_0)
def client_Clients_Remove (r_0 : client_Clients) (id_1 : Str) : Option (Bool × client_Clients) :=
  (client_Clients_find r_0 id_1).bind fun y4 =>
    if y4.2 == 0 then
      client_Clients_Remove_B1 y4.2 (client_Clients.mk (mdel r_0.of_ id_1))
    else
      client_Clients_Remove_B1 y4.2 r_0
def law36_alive : Option (Bool) :=
  (client_New).bind fun y1 =>
    (law36_app).bind fun y11 =>
      (client_Clients_Register y1 y11).bind fun y20 =>
        (law36_app).bind fun y29 =>
          (law36_app).bind fun y38 =>
            (law36_app).bind fun y47 =>
              Option.bind (if y20.1 == 0 then
                  (client_Clients_Redirect y20.2 ([97, 112, 112]) ([104, 116, 116, 112, 115, 58, 47, 47, 97, 112, 112, 47, 99, 98])).bind fun y96 =>
                    some (y96 == 0)
                else
                  some false
                ) fun z90 =>
                Option.bind (if z90 then
                    (client_Clients_Redirect y20.2 ([97, 112, 112]) ([104, 116, 116, 112, 115, 58, 47, 47, 97, 112, 112, 47, 99, 98, 47])).bind fun y109 =>
                      some (y109 == 11)
                  else
                    some false
                  ) fun z103 =>
                  Option.bind (if z103 then
                      (client_Clients_Authenticate y20.2 ([97, 112, 112]) ([])).bind fun y122 =>
                        some (y122 == 0)
                    else
                      some false
                    ) fun z116 =>
                    Option.bind (if z116 then
                        (client_Clients_Authenticate y20.2 ([97, 112, 112]) ([120])).bind fun y135 =>
                          some (y135 == 11)
                      else
                        some false
                      ) fun z129 =>
                      Option.bind (if z129 then
                          (client_Clients_Allowed y20.2 ([97, 112, 112]) ([[109, 97, 105, 108, 46, 114, 101, 97, 100]] : List Str)).bind fun y153 =>
                            some (y153 == 0)
                        else
                          some false
                        ) fun z142 =>
                        Option.bind (if z142 then
                            (client_Clients_Allowed y20.2 ([97, 112, 112]) ([[102, 105, 108, 101, 115]] : List Str)).bind fun y171 =>
                              some (y171 == 19)
                          else
                            some false
                          ) fun z160 =>
                          Option.bind (if z160 then
                              (client_Clients_Allowed y20.2 ([120]) ([] : List Str)).bind fun y184 =>
                                some (y184 == 6)
                            else
                              some false
                            ) fun z178 =>
                            Option.bind (if z178 then
                                (client_Check (api_Client.mk y29.ID 2 y29.Tenant y29.Secret y29.Redirects y29.Scopes y29.Logout)).bind fun y197 =>
                                  some (y197 == 4)
                              else
                                some false
                              ) fun z191 =>
                              Option.bind (if z191 then
                                  (client_Check (api_Client.mk y38.ID y38.Kind y38.Tenant y38.Secret ([[104, 116, 116, 112, 58, 47, 47, 97, 112, 112]] : List Str) y38.Scopes y38.Logout)).bind fun y210 =>
                                    some (y210 == 4)
                                else
                                  some false
                                ) fun z204 =>
                                Option.bind (if z204 then
                                    (client_Check (api_Client.mk y47.ID y47.Kind y47.Tenant y47.Secret ([] : List Str) y47.Scopes y47.Logout)).bind fun y223 =>
                                      some (y223 == 6)
                                  else
                                    some false
                                  ) fun z217 =>
                                  Option.bind (if z217 then
                                      (client_Clients_List y20.2).bind fun y236 =>
                                        (ref07_Lists y236 ([[97, 112, 112]] : List Str)).bind fun y248 =>
                                          some y248
                                    else
                                      some false
                                    ) fun z230 =>
                                    Option.bind (if z230 then
                                        (client_Clients_Remove y20.2 ([97, 112, 112])).bind fun y261 =>
                                          some (y261.1, y261.2)
                                      else
                                        some (false, y20.2)
                                      ) fun z255 =>
                                      Option.bind (if z255.1 then
                                          (client_Clients_Remove z255.2 ([97, 112, 112])).bind fun y281 =>
                                            some (!y281.1, y281.2)
                                        else
                                          some (false, z255.2)
                                        ) fun z275 =>
                                        some (z275.1)
def law36_few_L1 : Nat → List law36_Op → Int → Option (Bool)
  | 0, _, _ => none
  | n + 1, l_0, i_3 =>
    if decide (i_3 < (l_0.length : Int)) then
      (idx l_0 i_3).bind fun y4 =>
        (law36_small y4.Client).bind fun y17 =>
          Option.bind (if !y17 then
              some true
            else
              (idx l_0 i_3).bind fun y30 =>
                some (decide ((y30.ID.length : Int) > 300))
            ) fun z24 =>
            Option.bind (if z24 then
                some true
              else
                (idx l_0 i_3).bind fun y51 =>
                  some (decide ((y51.S.length : Int) > 300))
              ) fun z45 =>
              Option.bind (if z45 then
                  some true
                else
                  (idx l_0 i_3).bind fun y72 =>
                    (law36_short y72.Scopes).bind fun y85 =>
                      some (!y85)
                ) fun z66 =>
                if z66 then
                  some (false)
                else
                  (law36_few_L1 n) l_0 (IntKind.i64.wrap (i_3 + 1))
    else
      some (decide ((l_0.length : Int) ≤ 12))
def law36_few (l_0 : List law36_Op) : Option (Bool) :=
  law36_few_L1 fuel l_0 0
def client_Clients_Get (r_0 : client_Clients) (id_1 : Str) : Option (api_Client × Bool) :=
  (client_Clients_find r_0 id_1).bind fun y13 =>
    (client_own y13.1).bind fun y29 =>
      some (y29, y13.2 == 0)
def client_Clients_ready__nil : Option (Bool) :=
  some (false)
def client_Clients_find__nil (id_1 : Str) : Option (api_Client × Int) :=
  (client_Clients_ready__nil).bind fun y10 =>
    some ((api_Client.mk ([]) 0 ([]) (api_Verifier.mk ([]) 0 ([])) ([] : List Str) ([] : List Str) ([])), 1)
def client_Clients_Get__nil (id_1 : Str) : Option (api_Client × Bool) :=
  (client_Clients_find__nil id_1).bind fun y10 =>
    (client_own y10.1).bind fun y26 =>
      some (y26, y10.2 == 0)
def client_Clients_Register__nil (c_1 : api_Client) : Option (Int) :=
  (client_Clients_ready__nil).bind fun y10 =>
    some (1)
def client_Clients_Redirect__nil (id_1 : Str) (address_2 : Str) : Option (Int) :=
  (client_Clients_find__nil id_1).bind fun y1 =>
    Option.bind (if y1.2 == 0 then
        (slices_Contains_string_string y1.1.Redirects address_2).bind fun y25 =>
          some (!y25)
      else
        some false
      ) fun z19 =>
      if z19 then
        some (11)
      else
        some (y1.2)
def client_Clients_Authenticate__nil (id_1 : Str) (secret_2 : Str) : Option (Int) :=
  (client_Clients_find__nil id_1).bind fun y1 =>
    Option.bind (if y1.2 == 0 then
        (client_accepts y1.1 secret_2).bind fun y25 =>
          some (!y25)
      else
        some false
      ) fun z19 =>
      if z19 then
        some (11)
      else
        some (y1.2)
def client_Clients_Allowed__nil (id_1 : Str) (scopes_2 : List Str) : Option (Int) :=
  (client_Clients_find__nil id_1).bind fun y3 =>
    Option.bind (if y3.2 == 0 then
        (scope_Within scopes_2 y3.1.Scopes).bind fun y27 =>
          some (!y27)
      else
        some false
      ) fun z21 =>
      if z21 then
        some (19)
      else
        some (y3.2)
def client_Clients_Remove__nil_B1 (e_6 : Int) : Option (Bool) :=
  some (e_6 == 0)
def client_Clients_Remove__nil (id_1 : Str) : Option (Bool) :=
  (client_Clients_find__nil id_1).bind fun y1 =>
    if y1.2 == 0 then
      none
    else
      client_Clients_Remove__nil_B1 y1.2
def client_Clients_List__nil : Option (List Str) :=
  (client_Clients_ready__nil).bind fun y3 =>
    some (([] : List Str))
def law36_ClientNil (o_0 : law36_Op) : Option (Bool) :=
  (law36_few ([o_0] : List law36_Op)).bind fun y17 =>
    if !y17 then
      (law36_alive).bind fun y23 =>
        some (y23)
    else
      (client_Clients_Get__nil o_0.ID).bind fun y43 =>
        Option.bind (if y43.2 then
            some true
          else
            (client_Clients_Register__nil o_0.Client).bind fun y67 =>
              some (y67 != 1)
          ) fun z61 =>
          Option.bind (if z61 then
              some true
            else
              (client_Clients_Redirect__nil o_0.ID o_0.S).bind fun y80 =>
                some (y80 != 1)
            ) fun z74 =>
            Option.bind (if z74 then
                some true
              else
                (client_Clients_Authenticate__nil o_0.ID o_0.S).bind fun y93 =>
                  some (y93 != 1)
              ) fun z87 =>
              Option.bind (if z87 then
                  some true
                else
                  (client_Clients_Allowed__nil o_0.ID o_0.Scopes).bind fun y106 =>
                    some (y106 != 1)
                ) fun z100 =>
                Option.bind (if z100 then
                    some true
                  else
                    (client_Clients_Remove__nil o_0.ID).bind fun y119 =>
                      some y119
                  ) fun z113 =>
                  Option.bind (if z113 then
                      some true
                    else
                      (client_Clients_List__nil).bind fun y132 =>
                        some ((y132.length : Int) != 0)
                    ) fun z126 =>
                    if z126 then
                      some (false)
                    else
                      (client_Clients_Get (client_Clients.mk (none : GMap Str api_Client)) o_0.ID).bind fun y145 =>
                        Option.bind (if y145.2 then
                            some (true, (client_Clients.mk (none : GMap Str api_Client)))
                          else
                            (client_Clients_Register (client_Clients.mk (none : GMap Str api_Client)) o_0.Client).bind fun y169 =>
                              some (y169.1 != 1, y169.2)
                          ) fun z163 =>
                          Option.bind (if z163.1 then
                              some true
                            else
                              (client_Clients_Redirect z163.2 o_0.ID o_0.S).bind fun y189 =>
                                some (y189 != 1)
                            ) fun z183 =>
                            Option.bind (if z183 then
                                some true
                              else
                                (client_Clients_Authenticate z163.2 o_0.ID o_0.S).bind fun y202 =>
                                  some (y202 != 1)
                              ) fun z196 =>
                              Option.bind (if z196 then
                                  some true
                                else
                                  (client_Clients_Allowed z163.2 o_0.ID o_0.Scopes).bind fun y215 =>
                                    some (y215 != 1)
                                ) fun z209 =>
                                Option.bind (if z209 then
                                    some (true, z163.2)
                                  else
                                    (client_Clients_Remove z163.2 o_0.ID).bind fun y228 =>
                                      some (y228.1, y228.2)
                                  ) fun z222 =>
                                  Option.bind (if z222.1 then
                                      some true
                                    else
                                      (client_Clients_List z222.2).bind fun y248 =>
                                        some ((y248.length : Int) != 0)
                                    ) fun z242 =>
                                    if z242 then
                                      some (false)
                                    else
                                      (law36_alive).bind fun y256 =>
                                        some (y256)
end Go.KW.S
