/- Own work: a part of the proofs of this seat. -/
import Derived.Test.YtijiipelpgmhpaaKwMap3
import Derived.Test.YtijiipelpgmhpaaKwSeg2
import Derived.Test.YtijiipelpgmhpaaKwKeys
import Derived.Test.YtijiipelpgmhpaaKwGlob
import Derived.Test.YtijiipelpgmhpaaKwOffs
import Derived.Test.YtijiipelpgmhpaaKwMapR
set_option linter.unusedVariables false
namespace Go.KW.S
open Go Go.KW
structure law32_Op where
  Call : Int
  Until : Int
  Now : Int
  User : Str
  Client : Str
  Scopes : List Str
  deriving DecidableEq
def law32_Op.c : Cdc law32_Op :=
  { size := 6, rd := fun A w cs x => ∃ v0, cs = [.int .i64 x.Call, .int .i64 x.Until, .int .i64 x.Now, str x.User, str x.Client, v0] ∧ SlR strC A w v0 x.Scopes
    len := fun h => by obtain ⟨_, h, _⟩ := h; rw [h]; rfl
    one := fun h u hu => by
      obtain ⟨v0, h, h0⟩ := h
      subst h
      simp at hu
      rcases hu with rfl | rfl | rfl | rfl | rfl | rfl
      all_goals first | rfl | exact SlR.oneCell (by assumption)
    step := fun h s => by
      obtain ⟨v0, h, h0⟩ := h
      exact ⟨v0, h, h0.step s⟩ }
structure consent_pair where
  user : Str
  client : Str
  deriving DecidableEq
def consent_pair.c : Cdc consent_pair := Cdc.flat 2 (fun x => [str x.user, str x.client]) (fun _ => rfl) (fun _ u h => by simp at h; rcases h with rfl | rfl <;> rfl)
def consent_pair.eqb (x y : consent_pair) : Bool := (x.user == y.user) && (x.client == y.client)
def consent_pair.ek (k : consent_pair) : Value := .agg #[str k.user, str k.client]
structure consent_Consents where
  pairs : GMap consent_pair (GMap Str Int)
  deriving DecidableEq
def consent_Consents.O (τ : Nat → Nat) (ρ : Tags) (w : World) (g : Nat) (x : consent_Consents) : Prop := ∃ v0, Blk ρ (τ 0) w g (.cells #[v0] 52 (0, 0)) ∧ MapT consent_pair.ek (mapC str (intC .i64) false) false ρ (τ 1) w v0 x.pairs
structure ref32_item where
  scope : Str
  until_ : Int
  deriving DecidableEq
def ref32_item.c : Cdc ref32_item := Cdc.flat 2 (fun x => [str x.scope, .int .i64 x.until_]) (fun _ => rfl) (fun _ u h => by simp at h; rcases h with rfl | rfl <;> rfl)
def ref32_item.eqb (x y : ref32_item) : Bool := (x.scope == y.scope) && (x.until_ == y.until_)
structure ref32_pair where
  user : Str
  client : Str
  items : List ref32_item
  deriving DecidableEq
def ref32_pair.c : Cdc ref32_pair :=
  { size := 3, rd := fun A w cs x => ∃ v0, cs = [str x.user, str x.client, v0] ∧ SlR ref32_item.c A w v0 x.items
    len := fun h => by obtain ⟨_, h, _⟩ := h; rw [h]; rfl
    one := fun h u hu => by
      obtain ⟨v0, h, h0⟩ := h
      subst h
      simp at hu
      rcases hu with rfl | rfl | rfl
      all_goals first | rfl | exact SlR.oneCell (by assumption)
    step := fun h s => by
      obtain ⟨v0, h, h0⟩ := h
      exact ⟨v0, h, h0.step s⟩ }
structure ref32_Consents where
  made : Bool
  pairs : List ref32_pair
  deriving DecidableEq
def ref32_Consents.c : Cdc ref32_Consents :=
  { size := 2, rd := fun A w cs x => ∃ v0, cs = [.bool x.made, v0] ∧ SlR ref32_pair.c A w v0 x.pairs
    len := fun h => by obtain ⟨_, h, _⟩ := h; rw [h]; rfl
    one := fun h u hu => by
      obtain ⟨v0, h, h0⟩ := h
      subst h
      simp at hu
      rcases hu with rfl | rfl
      all_goals first | rfl | exact SlR.oneCell (by assumption)
    step := fun h s => by
      obtain ⟨v0, h, h0⟩ := h
      exact ⟨v0, h, h0.step s⟩ }
def ref32_Consents.O (τ : Nat → Nat) (ρ : Tags) (w : World) (g : Nat) (x : ref32_Consents) : Prop := ∃ v0, Blk ρ (τ 0) w g (.cells #[.bool x.made, v0] 55 (0, 0)) ∧ OwnT ref32_pair.c 63 ρ (τ 1) w v0 x.pairs
def law32_light_L2 (r0 : List law32_Op → Int → Option (Bool)) : Nat → List law32_Op → Int → Int → Option (Bool)
  | 0, _, _, _ => none
  | n + 1, l_0, i_3, k_4 =>
    (idx l_0 i_3).bind fun y50 =>
      if decide (k_4 < (y50.Scopes.length : Int)) then
        (idx l_0 i_3).bind fun y59 =>
          (idx y59.Scopes k_4).bind fun y67 =>
            if decide ((y67.length : Int) > 200) then
              some (false)
            else
              (law32_light_L2 r0 n) l_0 i_3 (IntKind.i64.wrap (k_4 + 1))
      else
        r0 l_0 (IntKind.i64.wrap (i_3 + 1))
def law32_light_L1 : Nat → List law32_Op → Int → Option (Bool)
  | 0, _, _ => none
  | n + 1, l_0, i_3 =>
    if (decide (i_3 < (l_0.length : Int))) && (decide (i_3 < 24)) then
      (idx l_0 i_3).bind fun y11 =>
        Option.bind (if decide ((y11.User.length : Int) > 200) then
            some true
          else
            (idx l_0 i_3).bind fun y26 =>
              some (decide ((y26.Client.length : Int) > 200))
          ) fun z21 =>
          Option.bind (if z21 then
              some true
            else
              (idx l_0 i_3).bind fun y41 =>
                some (decide ((y41.Scopes.length : Int) > 20))
            ) fun z36 =>
            if z36 then
              some (false)
            else
              law32_light_L2 (law32_light_L1 n) fuel l_0 i_3 0
    else
      some (decide ((l_0.length : Int) ≤ 24))
def law32_light (l_0 : List law32_Op) : Option (Bool) :=
  law32_light_L1 fuel l_0 0
def consent_New : Option (consent_Consents) :=
  some ((consent_Consents.mk (some [] : GMap consent_pair (GMap Str Int))))
def fold_upper (c_0 : Int) : Option (Bool) :=
  some ((decide (c_0 ≥ 65)) && (decide (c_0 ≤ 90)))
def fold_letter (c_0 : Int) : Option (Bool) :=
  (fold_upper c_0).bind fun y1 =>
    some (y1 || ((decide (c_0 ≥ 97)) && (decide (c_0 ≤ 122))))
def fold_digit (c_0 : Int) : Option (Bool) :=
  some ((decide (c_0 ≥ 48)) && (decide (c_0 ≤ 57)))
def fold_Word_1 (c_0 : Int) : Option (Bool) :=
  (fold_letter c_0).bind fun y1 =>
    Option.bind (if y1 then
        some true
      else
        (fold_digit c_0).bind fun y12 =>
          some y12
      ) fun z7 =>
      some ((((z7 || (c_0 == 45)) || (c_0 == 95)) || (c_0 == 46)) || (c_0 == 58))
def fold_made__Word_1_L1 : Nat → Str → Int → Int → Option (Bool)
  | 0, _, _, _ => none
  | n + 1, s_0, t_7, t_8 =>
    if decide (t_8 < t_7) then
      chk (inb t_8 s_0.length) (
        (fold_Word_1 (byteAt s_0 t_8)).bind fun y3 =>
          if !y3 then
            some (false)
          else
            (fold_made__Word_1_L1 n) s_0 t_7 (IntKind.i64.wrap (t_8 + 1)))
    else
      some ((!(s_0 == ([]))) && (decide ((s_0.length : Int) ≤ 64)))
def fold_made__Word_1 (s_0 : Str) : Option (Bool) :=
  fold_made__Word_1_L1 fuel s_0 (s_0.length : Int) 0
def fold_Word (s_0 : Str) : Option (Bool) :=
  (fold_made__Word_1 s_0).bind fun y1 =>
    some (y1)
def scope_valid (s_0 : Str) : Option (Bool) :=
  (fold_Word s_0).bind fun y1 =>
    Option.bind (if y1 then
        chk (inb 0 s_0.length) (
          some ((byteAt s_0 0) != 46))
      else
        some false
      ) fun z7 =>
      Option.bind (if z7 then
          chk (inb (IntKind.i64.wrap ((s_0.length : Int) - 1)) s_0.length) (
            some ((byteAt s_0 (IntKind.i64.wrap ((s_0.length : Int) - 1))) != 46))
        else
          some false
        ) fun z15 =>
        Option.bind (if z15 then
            (lib_Contains s_0 ([46, 46])).bind fun y28 =>
              some (!y28)
          else
            some false
          ) fun z23 =>
          some (z23)
def slices_Index_string_string_L1 : Nat → List Str → Str → Int → Int → Option (Int)
  | 0, _, _, _, _ => none
  | n + 1, s_0, v_1, t_7, t_8 =>
    if decide (t_8 < t_7) then
      (idx s_0 t_8).bind fun y4 =>
        if v_1 == y4 then
          some (t_8)
        else
          (slices_Index_string_string_L1 n) s_0 v_1 t_7 (IntKind.i64.wrap (t_8 + 1))
    else
      some ((-1))
def slices_Index_string_string (s_0 : List Str) (v_1 : Str) : Option (Int) :=
  slices_Index_string_string_L1 fuel s_0 v_1 (s_0.length : Int) 0
def slices_Contains_string_string (s_0 : List Str) (v_1 : Str) : Option (Bool) :=
  (slices_Index_string_string s_0 v_1).bind fun y3 =>
    some (decide (y3 ≥ 0))
def scope_Check_L1 : Nat → List Str → List Str → Int → Int → Option (Int)
  | 0, _, _, _, _ => none
  | n + 1, l_0, t_8, t_9, t_10 =>
    if decide (t_10 < t_9) then
      (idx t_8 t_10).bind fun y5 =>
        (scope_valid y5).bind fun y11 =>
          if !y11 then
            some (5)
          else
            chk (inc 0 t_10 l_0.length) (
              (slices_Contains_string_string (cut l_0 0 t_10) y5).bind fun y19 =>
                if y19 then
                  some (7)
                else
                  (scope_Check_L1 n) l_0 t_8 t_9 (IntKind.i64.wrap (t_10 + 1)))
    else
      some (0)
def scope_Check (l_0 : List Str) : Option (Int) :=
  if decide ((l_0.length : Int) > 16) then
    some (3)
  else
    scope_Check_L1 fuel l_0 l_0 (l_0.length : Int) 0
def clock_limited (t_0 : Int) : Option (Int) :=
  some (gmin (gmax t_0 0) 1099511627776)
def clock_Add (t_0 : Int) (d_1 : Int) : Option (Int) :=
  (clock_limited t_0).bind fun y1 =>
    (clock_limited d_1).bind fun y5 =>
      (clock_limited (IntKind.i64.wrap (y1 + y5))).bind fun y9 =>
        some (y9)
def consent_Consents_Grant_B2 (r0 : consent_Consents → List Str → Int → Int → Str → Str → GMap Str Int → GMap Str Int → List Str → Option (Int × consent_Consents)) (oc_0 : consent_Consents) (scopes_3 : List Str) (end_14 : Int) (at_15 : Int) (p_16_0 : Str) (p_16_1 : Str) (l_19 : GMap Str Int) (t_80m : GMap Str Int) (t_80 : List Str) : Option (Int × consent_Consents) :=
  r0 oc_0 scopes_3 end_14 at_15 p_16_0 p_16_1 l_19 t_80m t_80
def consent_Consents_Grant_L3 (r0 : consent_Consents → List Str → Int → Int → Str → Str → GMap Str Int → GMap Str Int → List Str → Option (Int × consent_Consents)) : Nat → consent_Consents → Int → Str → Str → GMap Str Int → List Str → Int → Int → Option (Int × consent_Consents)
  | 0, _, _, _, _, _, _, _, _ => none
  | n + 1, oc_0, end_14, p_16_0, p_16_1, l_19, t_92, t_93, t_94 =>
    if decide (t_94 < t_93) then
      (idx t_92 t_94).bind fun y101 =>
        (some (mgetD l_19 y101 0)).bind fun y112 =>
          chk l_19.isSome (
            (consent_Consents_Grant_L3 r0 n) oc_0 end_14 p_16_0 p_16_1 (mput l_19 y101 (gmax y112 end_14)) t_92 t_93 (IntKind.i64.wrap (t_94 + 1)))
    else
      if decide ((mlen l_19) > 16) then
        some (3, oc_0)
      else
        chk oc_0.pairs.isSome (
          some (0, (consent_Consents.mk (mput oc_0.pairs (consent_pair.mk p_16_0 p_16_1) (canon l_19)))))
def consent_Consents_Grant_L1 : Nat → consent_Consents → List Str → Int → Int → Str → Str → GMap Str Int → GMap Str Int → List Str → Option (Int × consent_Consents)
  | 0, _, _, _, _, _, _, _, _, _ => none
  | n + 1, oc_0, scopes_3, end_14, at_15, p_16_0, p_16_1, l_19, t_80m, t_80 =>
    pickAny (mleft t_80m t_80) (
        consent_Consents_Grant_L3 (consent_Consents_Grant_L1 n) fuel oc_0 end_14 p_16_0 p_16_1 l_19 scopes_3 (scopes_3.length : Int) 0)
      fun e84 =>
        if decide (e84.2 > at_15) then
          chk l_19.isSome (
            consent_Consents_Grant_B2 (consent_Consents_Grant_L1 n) oc_0 scopes_3 end_14 at_15 p_16_0 p_16_1 (mput l_19 e84.1 e84.2) t_80m (e84.1 :: t_80))
        else
          consent_Consents_Grant_B2 (consent_Consents_Grant_L1 n) oc_0 scopes_3 end_14 at_15 p_16_0 p_16_1 l_19 t_80m (e84.1 :: t_80)
def consent_Consents_Grant (c_0 : consent_Consents) (user_1 : Str) (client_2 : Str) (scopes_3 : List Str) (until_4 : Int) (now_5 : Int) : Option (Int × consent_Consents) :=
  if c_0.pairs.isNone then
    some (1, c_0)
  else
    (fold_Word user_1).bind fun y7 =>
      Option.bind (if !y7 then
          some true
        else
          (fold_Word client_2).bind fun y20 =>
            some (!y20)
        ) fun z14 =>
        if z14 then
          some (5, c_0)
        else
          (scope_Check scopes_3).bind fun y26 =>
            if y26 != 0 then
              some (y26, c_0)
            else
              if (scopes_3.length : Int) == 0 then
                some (6, c_0)
              else
                (clock_Add until_4 0).bind fun y33 =>
                  (clock_Add now_5 0).bind fun y38 =>
                    if decide (y33 ≤ y38) then
                      some (13, c_0)
                    else
                      (some (mgetD c_0.pairs (consent_pair.mk user_1 client_2) (none : GMap Str Int))).bind fun y57 =>
                        if (!(mhas c_0.pairs (consent_pair.mk user_1 client_2))) && (decide ((mlen c_0.pairs) ≥ 256)) then
                          some (3, c_0)
                        else
                          consent_Consents_Grant_L1 fuel c_0 scopes_3 y33 y38 user_1 client_2 (some [] : GMap Str Int) y57 ([] : List Str)
def consent_Consents_valid_B2 (r0 : Int → List Str → GMap Str Int → List Str → Option (List Str)) (now_2 : Int) (out_7 : List Str) (t_16m : GMap Str Int) (t_16 : List Str) : Option (List Str) :=
  r0 now_2 out_7 t_16m t_16
def consent_Consents_valid_L1 : Nat → Int → List Str → GMap Str Int → List Str → Option (List Str)
  | 0, _, _, _, _ => none
  | n + 1, now_2, out_7, t_16m, t_16 =>
    pickAny (mleft t_16m t_16) (
        some (sortS out_7))
      fun e59 =>
        (clock_Add now_2 0).bind fun y65 =>
          if decide (e59.2 > y65) then
            chk (fitL out_7.length ([e59.1] : List Str).length) (
              consent_Consents_valid_B2 (consent_Consents_valid_L1 n) now_2 (out_7 ++ ([e59.1] : List Str)) t_16m (e59.1 :: t_16))
          else
            consent_Consents_valid_B2 (consent_Consents_valid_L1 n) now_2 out_7 t_16m (e59.1 :: t_16)
def consent_Consents_valid (c_0 : consent_Consents) (p_1 : consent_pair) (now_2 : Int) : Option (List Str) :=
  (some (mgetD c_0.pairs p_1 (none : GMap Str Int))).bind fun y47 =>
    consent_Consents_valid_L1 fuel now_2 ([] : List Str) y47 ([] : List Str)
def internal_stringslite_HasPrefix (s_0 : Str) (prefix_1 : Str) : Option (Bool) :=
  Option.bind (if decide ((s_0.length : Int) ≥ (prefix_1.length : Int)) then
      chk (inc 0 (prefix_1.length : Int) s_0.length) (
        some ((cut s_0 0 (prefix_1.length : Int)) == prefix_1))
    else
      some false
    ) fun z3 =>
    some (z3)
def strings_HasPrefix (s_0 : Str) (prefix_1 : Str) : Option (Bool) :=
  (internal_stringslite_HasPrefix s_0 prefix_1).bind fun y1 =>
    some (y1)
def scope_Implies (a_0 : Str) (b_1 : Str) : Option (Bool) :=
  (scope_valid a_0).bind fun y1 =>
    Option.bind (if y1 then
        (scope_valid b_1).bind fun y12 =>
          some y12
      else
        some false
      ) fun z7 =>
      Option.bind (if z7 then
          Option.bind (if a_0 == b_1 then
              some true
            else
              chk (fitS a_0 ([46])) (
                (strings_HasPrefix b_1 (a_0 ++ ([46]))).bind fun y31 =>
                  some y31)
            ) fun z25 =>
            some z25
        else
          some false
        ) fun z18 =>
        some (z18)
def scope_Sorted_B2 (r0 : List Str → List Str → List Str → Int → Int → Option (List Str)) (l_0 : List Str) (out_3 : List Str) (t_8 : List Str) (t_9 : Int) (t_10 : Int) : Option (List Str) :=
  r0 l_0 out_3 t_8 t_9 (IntKind.i64.wrap (t_10 + 1))
def scope_Sorted_L3 (r0 : List Str → List Str → List Str → Int → Int → Option (List Str)) : Nat → List Str → List Str → Str → List Str → Int → Int → List Str → Int → Int → Option (List Str)
  | 0, _, _, _, _, _, _, _, _, _ => none
  | n + 1, l_0, out_3, s_5, t_8, t_9, t_10, t_25, t_26, t_27 =>
    if decide (t_27 < t_26) then
      (idx t_25 t_27).bind fun y38 =>
        Option.bind (if !(y38 == s_5) then
            (scope_Implies y38 s_5).bind fun y51 =>
              some y51
          else
            some false
          ) fun z46 =>
          if z46 then
            scope_Sorted_B2 r0 l_0 out_3 t_8 t_9 t_10
          else
            (scope_Sorted_L3 r0 n) l_0 out_3 s_5 t_8 t_9 t_10 t_25 t_26 (IntKind.i64.wrap (t_27 + 1))
    else
      chk (fitL out_3.length ([s_5] : List Str).length) (
        scope_Sorted_B2 r0 l_0 (out_3 ++ ([s_5] : List Str)) t_8 t_9 t_10)
def scope_Sorted_L1 : Nat → List Str → List Str → List Str → Int → Int → Option (List Str)
  | 0, _, _, _, _, _ => none
  | n + 1, l_0, out_3, t_8, t_9, t_10 =>
    if decide (t_10 < t_9) then
      (idx t_8 t_10).bind fun y8 =>
        (scope_valid y8).bind fun y14 =>
          Option.bind (if !y14 then
              some true
            else
              chk (inc 0 t_10 l_0.length) (
                (slices_Contains_string_string (cut l_0 0 t_10) y8).bind fun y28 =>
                  some y28)
            ) fun z20 =>
            if z20 then
              scope_Sorted_B2 (scope_Sorted_L1 n) l_0 out_3 t_8 t_9 t_10
            else
              scope_Sorted_L3 (scope_Sorted_L1 n) fuel l_0 out_3 y8 t_8 t_9 t_10 l_0 (l_0.length : Int) 0
    else
      (lib_Sort out_3).bind fun y74 =>
        some (y74)
def scope_Sorted (l_0 : List Str) : Option (List Str) :=
  scope_Sorted_L1 fuel l_0 ([] : List Str) l_0 (l_0.length : Int) 0
def consent_Consents_Scopes (c_0 : consent_Consents) (user_1 : Str) (client_2 : Str) (now_3 : Int) : Option (List Str) :=
  (consent_Consents_valid c_0 (consent_pair.mk user_1 client_2) now_3).bind fun y6 =>
    permAny y6 fun p11 =>
      (scope_Sorted p11).bind fun y15 =>
        some (y15)
def scope_covered_L1 : Nat → Str → List Str → Int → Int → Option (Bool)
  | 0, _, _, _, _ => none
  | n + 1, s_0, t_7, t_8, t_9 =>
    if decide (t_9 < t_8) then
      (idx t_7 t_9).bind fun y4 =>
        (scope_Implies y4 s_0).bind fun y10 =>
          if y10 then
            some (true)
          else
            (scope_covered_L1 n) s_0 t_7 t_8 (IntKind.i64.wrap (t_9 + 1))
    else
      some (false)
def scope_covered (s_0 : Str) (l_1 : List Str) : Option (Bool) :=
  scope_covered_L1 fuel s_0 l_1 (l_1.length : Int) 0
def scope_Within_L1 : Nat → List Str → List Str → Int → Int → Option (Bool)
  | 0, _, _, _, _ => none
  | n + 1, b_1, t_7, t_8, t_9 =>
    if decide (t_9 < t_8) then
      (idx t_7 t_9).bind fun y6 =>
        (scope_covered y6 b_1).bind fun y12 =>
          if !y12 then
            some (false)
          else
            (scope_Within_L1 n) b_1 t_7 t_8 (IntKind.i64.wrap (t_9 + 1))
    else
      some (true)
def scope_Within (a_0 : List Str) (b_1 : List Str) : Option (Bool) :=
  scope_Within_L1 fuel b_1 a_0 (a_0.length : Int) 0
def consent_Consents_Covers (c_0 : consent_Consents) (user_1 : Str) (client_2 : Str) (scopes_3 : List Str) (now_4 : Int) : Option (Bool) :=
  Option.bind (if !c_0.pairs.isNone then
      (consent_Consents_Scopes c_0 user_1 client_2 now_4).bind fun y14 =>
        (scope_Within scopes_3 y14).bind fun y21 =>
          some y21
    else
      some false
    ) fun z8 =>
    some (z8)
def consent_Consents_Clients_B2 (r0 : consent_Consents → Str → Int → List Str → List consent_pair → Option (List Str)) (oc_0 : consent_Consents) (user_1 : Str) (now_2 : Int) (out_7 : List Str) (t_15 : List consent_pair) : Option (List Str) :=
  r0 oc_0 user_1 now_2 out_7 t_15
def consent_Consents_Clients_L1 : Nat → consent_Consents → Str → Int → List Str → List consent_pair → Option (List Str)
  | 0, _, _, _, _, _ => none
  | n + 1, oc_0, user_1, now_2, out_7, t_15 =>
    pickAny (mleft oc_0.pairs t_15) (
        (lib_Sort out_7).bind fun y65 =>
          some (y65))
      fun e16 =>
        Option.bind (if e16.1.user == user_1 then
            (consent_Consents_valid oc_0 e16.1 now_2).bind fun y39 =>
              permAny y39 fun p44 =>
                some (decide ((p44.length : Int) > 0))
          else
            some false
          ) fun z33 =>
          if z33 then
            chk (fitL out_7.length ([e16.1.client] : List Str).length) (
              consent_Consents_Clients_B2 (consent_Consents_Clients_L1 n) oc_0 user_1 now_2 (out_7 ++ ([e16.1.client] : List Str)) (e16.1 :: t_15))
          else
            consent_Consents_Clients_B2 (consent_Consents_Clients_L1 n) oc_0 user_1 now_2 out_7 (e16.1 :: t_15)
def consent_Consents_Clients (c_0 : consent_Consents) (user_1 : Str) (now_2 : Int) : Option (List Str) :=
  consent_Consents_Clients_L1 fuel c_0 user_1 now_2 ([] : List Str) ([] : List consent_pair)
def consent_Consents_Drop_1 (p_0 : consent_pair) (__1 : GMap Str Int) (c2 : Str) : Option (Bool) :=
  some (p_0.user == c2)
def maps_DeleteFunc_map_consent_pair_map_string_int_consent_pair_map_string_int__Consents_Drop_1_B2 (r0 : GMap consent_pair (GMap Str Int) → Str → List consent_pair → Option (GMap consent_pair (GMap Str Int))) (m_0 : GMap consent_pair (GMap Str Int)) (del_1_c0 : Str) (t_7 : List consent_pair) : Option (GMap consent_pair (GMap Str Int)) :=
  r0 m_0 del_1_c0 t_7
def maps_DeleteFunc_map_consent_pair_map_string_int_consent_pair_map_string_int__Consents_Drop_1_L1 : Nat → GMap consent_pair (GMap Str Int) → Str → List consent_pair → Option (GMap consent_pair (GMap Str Int))
  | 0, _, _, _ => none
  | n + 1, m_0, del_1_c0, t_7 =>
    pickAny (mleft m_0 t_7) (
        some (m_0))
      fun e10 =>
        (consent_Consents_Drop_1 e10.1 e10.2 del_1_c0).bind fun y25 =>
          if y25 then
            maps_DeleteFunc_map_consent_pair_map_string_int_consent_pair_map_string_int__Consents_Drop_1_B2 (maps_DeleteFunc_map_consent_pair_map_string_int_consent_pair_map_string_int__Consents_Drop_1_L1 n) (mdel m_0 e10.1) del_1_c0 (e10.1 :: t_7)
          else
            maps_DeleteFunc_map_consent_pair_map_string_int_consent_pair_map_string_int__Consents_Drop_1_B2 (maps_DeleteFunc_map_consent_pair_map_string_int_consent_pair_map_string_int__Consents_Drop_1_L1 n) m_0 del_1_c0 (e10.1 :: t_7)
def maps_DeleteFunc_map_consent_pair_map_string_int_consent_pair_map_string_int__Consents_Drop_1 (m_0 : GMap consent_pair (GMap Str Int)) (c1_0 : Str) : Option (GMap consent_pair (GMap Str Int)) :=
  maps_DeleteFunc_map_consent_pair_map_string_int_consent_pair_map_string_int__Consents_Drop_1_L1 fuel m_0 c1_0 ([] : List consent_pair)
def consent_Consents_Drop (c_0 : consent_Consents) (user_1 : Str) : Option (Int × consent_Consents) :=
  (maps_DeleteFunc_map_consent_pair_map_string_int_consent_pair_map_string_int__Consents_Drop_1 c_0.pairs user_1).bind fun y11 =>
    some (IntKind.i64.wrap ((mlen c_0.pairs) - (mlen y11)), (consent_Consents.mk y11))
def ref03_Same_L1 : Nat → List Str → List Str → Int → Option (Bool)
  | 0, _, _, _ => none
  | n + 1, a_0, b_1, i_5 =>
    if decide (i_5 < (a_0.length : Int)) then
      (idx a_0 i_5).bind fun y9 =>
        (idx b_1 i_5).bind fun y15 =>
          if !(y9 == y15) then
            some (false)
          else
            (ref03_Same_L1 n) a_0 b_1 (IntKind.i64.wrap (i_5 + 1))
    else
      some (true)
def ref03_Same (a_0 : List Str) (b_1 : List Str) : Option (Bool) :=
  if (a_0.length : Int) != (b_1.length : Int) then
    some (false)
  else
    ref03_Same_L1 fuel a_0 b_1 0
def consent_Consents_Len (c_0 : consent_Consents) : Option (Int) :=
  some (mlen c_0.pairs)
def consent_Consents_Revoke (c_0 : consent_Consents) (user_1 : Str) (client_2 : Str) : Option (Bool × consent_Consents) :=
  (some (mgetD c_0.pairs (consent_pair.mk user_1 client_2) (none : GMap Str Int))).bind fun y17 =>
    some (mhas c_0.pairs (consent_pair.mk user_1 client_2), (consent_Consents.mk (mdel c_0.pairs (consent_pair.mk user_1 client_2))))
def consent_Consents_Grant__nil (user_1 : Str) (client_2 : Str) (scopes_3 : List Str) (until_4 : Int) (now_5 : Int) : Option (Int) :=
  some (1)
def consent_Consents_Covers__nil (user_1 : Str) (client_2 : Str) (scopes_3 : List Str) (now_4 : Int) : Option (Bool) :=
  some (false)
def law32_awake : Option (Bool) :=
  (consent_New).bind fun y1 =>
    (consent_Consents_Grant y1 ([97, 110, 110]) ([119, 101, 98]) ([[109, 97, 105, 108]] : List Str) 10 0).bind fun y16 =>
      (consent_Consents_Grant y16.2 ([97, 110, 110]) ([119, 101, 98]) ([[109, 97, 105, 108]] : List Str) 5 0).bind fun y30 =>
        (consent_Consents_Grant y30.2 ([97, 110, 110]) ([97, 112, 112]) ([[97]] : List Str) 3 3).bind fun y44 =>
          (consent_Consents_Scopes y44.2 ([97, 110, 110]) ([119, 101, 98]) 9).bind fun y53 =>
            (consent_Consents_Covers y44.2 ([97, 110, 110]) ([119, 101, 98]) ([[109, 97, 105, 108, 46, 114, 101, 97, 100]] : List Str) 9).bind fun y65 =>
              (consent_Consents_Covers y44.2 ([97, 110, 110]) ([119, 101, 98]) ([[109, 97, 105, 108, 46, 114, 101, 97, 100]] : List Str) 10).bind fun y75 =>
                (consent_Consents_Clients y44.2 ([97, 110, 110]) 9).bind fun y80 =>
                  (consent_Consents_Drop y44.2 ([97, 110, 110])).bind fun y87 =>
                    Option.bind (if ((y16.1 == 0) && (y30.1 == 0)) && (y44.1 == 13) then
                        (ref03_Same y53 ([[109, 97, 105, 108]] : List Str)).bind fun y125 =>
                          some y125
                      else
                        some false
                      ) fun z114 =>
                      Option.bind (if (z114 && y65) && (!y75) then
                          (ref03_Same y80 ([[119, 101, 98]] : List Str)).bind fun y159 =>
                            some y159
                        else
                          some false
                        ) fun z148 =>
                        Option.bind (if z148 && (y87.1 == 1) then
                            (consent_Consents_Len y87.2).bind fun y180 =>
                              some (y180 == 0)
                          else
                            some false
                          ) fun z174 =>
                          Option.bind (if z174 then
                              (consent_Consents_Revoke y87.2 ([97, 110, 110]) ([119, 101, 98])).bind fun y193 =>
                                some (!y193.1, y193.2)
                            else
                              some (false, y87.2)
                            ) fun z187 =>
                            Option.bind (if z187.1 then
                                (consent_Consents_Grant__nil ([97, 110, 110]) ([119, 101, 98]) ([[97]] : List Str) 5 0).bind fun y218 =>
                                  some (y218 == 1)
                              else
                                some false
                              ) fun z207 =>
                              Option.bind (if z207 then
                                  (consent_Consents_Covers__nil ([97, 110, 110]) ([119, 101, 98]) ([] : List Str) 0).bind fun y231 =>
                                    some true
                                else
                                  some false
                                ) fun z225 =>
                                some (z225)
def law32_yes (b_0 : Bool) : Option (Int) :=
  if b_0 then
    some (1)
  else
    some (0)
def law32_do (c_0 : consent_Consents) (x_1 : law32_Op) : Option (Int × consent_Consents) :=
  if x_1.Call == 0 then
    (consent_Consents_Grant c_0 x_1.User x_1.Client x_1.Scopes x_1.Until x_1.Now).bind fun y12 =>
      some (y12.1, y12.2)
  else
    if x_1.Call == 1 then
      (consent_Consents_Revoke c_0 x_1.User x_1.Client).bind fun y22 =>
        (law32_yes y22.1).bind fun y31 =>
          some (y31, y22.2)
    else
      if x_1.Call == 2 then
        (consent_Consents_Drop c_0 x_1.User).bind fun y37 =>
          some (y37.1, y37.2)
      else
        (consent_Consents_Covers c_0 x_1.User x_1.Client x_1.Scopes x_1.Now).bind fun y46 =>
          (law32_yes y46).bind fun y51 =>
            some (y51, c_0)
def law32_limited (n_0 : Int) : Option (Int) :=
  some (gmax 0 (gmin n_0 1099511627776))
def law32_ConsentGranted_L4 (r0 : List law32_Op → Int → Int → Int → Int → Str → Str → List Str → consent_Consents → Int → Option (Bool)) : Nat → Int → Int → Int → Int → Str → Str → List Str → consent_Consents → Bool → List Str → Int → Option (Bool)
  | 0, _, _, _, _, _, _, _, _, _, _, _ => none
  | n + 1, at_2, x_4_0, x_4_1, x_4_2, x_4_3, x_4_4, x_4_5, oc_7, found_9, k_10, i_11 =>
    if decide (i_11 < (k_10.length : Int)) then
      Option.bind (if found_9 then
          some true
        else
          (idx k_10 i_11).bind fun y402 =>
            some (y402 == x_4_4)
        ) fun z397 =>
        (law32_ConsentGranted_L4 r0 n) at_2 x_4_0 x_4_1 x_4_2 x_4_3 x_4_4 x_4_5 oc_7 z397 k_10 (IntKind.i64.wrap (i_11 + 1))
    else
      Option.bind (if found_9 then
          (consent_Consents_Revoke oc_7 x_4_3 x_4_4).bind fun y418 =>
            some (y418.1, y418.2)
        else
          some (false, oc_7)
        ) fun z412 =>
        Option.bind (if z412.1 then
            (consent_Consents_Scopes z412.2 x_4_3 x_4_4 at_2).bind fun y438 =>
              some ((y438.length : Int) == 0)
          else
            some false
          ) fun z432 =>
          Option.bind (if z432 then
              (law32_awake).bind fun y453 =>
                some y453
            else
              some false
            ) fun z447 =>
            some (z447)
def law32_ConsentGranted_B3 (r0 : List law32_Op → Int → Int → Int → Int → Str → Str → List Str → consent_Consents → Int → Option (Bool)) (at_2 : Int) (x_4_0 : Int) (x_4_1 : Int) (x_4_2 : Int) (x_4_3 : Str) (x_4_4 : Str) (x_4_5 : List Str) (oc_7 : consent_Consents) (t_60 : Bool) : Option (Bool) :=
  if t_60 then
    (law32_awake).bind fun y371 =>
      some (y371)
  else
    (consent_Consents_Covers oc_7 x_4_3 x_4_4 x_4_5 at_2).bind fun y376 =>
      if !y376 then
        some (false)
      else
        (consent_Consents_Clients oc_7 x_4_3 at_2).bind fun y382 =>
          law32_ConsentGranted_L4 r0 fuel at_2 x_4_0 x_4_1 x_4_2 x_4_3 x_4_4 x_4_5 oc_7 false y382 0
def law32_ConsentGranted_L2 : Nat → List law32_Op → Int → Int → Int → Int → Str → Str → List Str → consent_Consents → Int → Option (Bool)
  | 0, _, _, _, _, _, _, _, _, _, _ => none
  | n + 1, l_0, at_2, x_4_0, x_4_1, x_4_2, x_4_3, x_4_4, x_4_5, oc_7, i_8 =>
    if decide (i_8 < (l_0.length : Int)) then
      (idx l_0 i_8).bind fun y288 =>
        (law32_do oc_7 y288).bind fun y297 =>
          (law32_ConsentGranted_L2 n) l_0 at_2 x_4_0 x_4_1 x_4_2 x_4_3 x_4_4 x_4_5 y297.2 (IntKind.i64.wrap (i_8 + 1))
    else
      (consent_Consents_Grant oc_7 x_4_3 x_4_4 x_4_5 x_4_1 x_4_2).bind fun y357 =>
        if y357.1 != 0 then
          law32_ConsentGranted_B3 (law32_ConsentGranted_L2 n) at_2 x_4_0 x_4_1 x_4_2 x_4_3 x_4_4 x_4_5 y357.2 true
        else
          (law32_limited at_2).bind fun y459 =>
            (law32_limited x_4_1).bind fun y465 =>
              law32_ConsentGranted_B3 (law32_ConsentGranted_L2 n) at_2 x_4_0 x_4_1 x_4_2 x_4_3 x_4_4 x_4_5 y357.2 (decide (y459 ≥ y465))
def law32_ConsentGranted_B1 (l_0 : List law32_Op) (at_2 : Int) (x_4_0 : Int) (x_4_1 : Int) (x_4_2 : Int) (x_4_3 : Str) (x_4_4 : Str) (x_4_5 : List Str) (t_23 : Bool) : Option (Bool) :=
  if t_23 then
    (law32_awake).bind fun y269 =>
      some (y269)
  else
    (consent_New).bind fun y274 =>
      law32_ConsentGranted_L2 fuel l_0 at_2 x_4_0 x_4_1 x_4_2 x_4_3 x_4_4 x_4_5 y274 0
def law32_ConsentGranted (l_0 : List law32_Op) (x_1 : law32_Op) (at_2 : Int) : Option (Bool) :=
  chk (inc 0 (gmin (l_0.length : Int) 25) l_0.length) (
    chk (fitL ([] : List law32_Op).length (cut l_0 0 (gmin (l_0.length : Int) 25)).length) (
      chk (fitL (([] : List law32_Op) ++ (cut l_0 0 (gmin (l_0.length : Int) 25))).length ([x_1] : List law32_Op).length) (
        (law32_light ((([] : List law32_Op) ++ (cut l_0 0 (gmin (l_0.length : Int) 25))) ++ ([x_1] : List law32_Op))).bind fun y233 =>
          law32_ConsentGranted_B1 l_0 at_2 x_1.Call x_1.Until x_1.Now x_1.User x_1.Client x_1.Scopes (!y233))))
end Go.KW.S
