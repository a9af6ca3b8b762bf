/- Own work: a part of the proofs of this seat. -/
import Derived.Test.YtijiipelpgmhpaaKwMap3
import Derived.Test.YtijiipelpgmhpaaKwSeg2
import Derived.Test.YtijiipelpgmhpaaKwKeys
import Derived.Test.YtijiipelpgmhpaaKwGlob
import Derived.Test.YtijiipelpgmhpaaKwOffs
import Derived.Test.YtijiipelpgmhpaaKwMapR
set_option linter.unusedVariables false
namespace Go.KW.S
open Go Go.KW
structure law32_Op where
  Call : Int
  Until : Int
  Now : Int
  User : Str
  Client : Str
  Scopes : List Str
  deriving DecidableEq
def law32_Op.c : Cdc law32_Op :=
  { size := 6, rd := fun A w cs x => ∃ v0, cs = [.int .i64 x.Call, .int .i64 x.Until, .int .i64 x.Now, str x.User, str x.Client, v0] ∧ SlR strC A w v0 x.Scopes
    len := fun h => by obtain ⟨_, h, _⟩ := h; rw [h]; rfl
    one := fun h u hu => by
      obtain ⟨v0, h, h0⟩ := h
      subst h
      simp at hu
      rcases hu with rfl | rfl | rfl | rfl | rfl | rfl
      all_goals first | rfl | exact SlR.oneCell (by assumption)
    step := fun h s => by
      obtain ⟨v0, h, h0⟩ := h
      exact ⟨v0, h, h0.step s⟩ }
structure consent_pair where
  user : Str
  client : Str
  deriving DecidableEq
def consent_pair.c : Cdc consent_pair := Cdc.flat 2 (fun x => [str x.user, str x.client]) (fun _ => rfl) (fun _ u h => by simp at h; rcases h with rfl | rfl <;> rfl)
def consent_pair.eqb (x y : consent_pair) : Bool := (x.user == y.user) && (x.client == y.client)
def consent_pair.ek (k : consent_pair) : Value := .agg #[str k.user, str k.client]
structure consent_Consents where
  pairs : GMap consent_pair (GMap Str Int)
  deriving DecidableEq
def consent_Consents.O (τ : Nat → Nat) (ρ : Tags) (w : World) (g : Nat) (x : consent_Consents) : Prop := ∃ v0, Blk ρ (τ 0) w g (.cells #[v0] 52 (0, 0)) ∧ MapT consent_pair.ek (mapC str (intC .i64) false) false ρ (τ 1) w v0 x.pairs
structure ref32_item where
  scope : Str
  until_ : Int
  deriving DecidableEq
def ref32_item.c : Cdc ref32_item := Cdc.flat 2 (fun x => [str x.scope, .int .i64 x.until_]) (fun _ => rfl) (fun _ u h => by simp at h; rcases h with rfl | rfl <;> rfl)
def ref32_item.eqb (x y : ref32_item) : Bool := (x.scope == y.scope) && (x.until_ == y.until_)
structure ref32_pair where
  user : Str
  client : Str
  items : List ref32_item
  deriving DecidableEq
def ref32_pair.c : Cdc ref32_pair :=
  { size := 3, rd := fun A w cs x => ∃ v0, cs = [str x.user, str x.client, v0] ∧ SlR ref32_item.c A w v0 x.items
    len := fun h => by obtain ⟨_, h, _⟩ := h; rw [h]; rfl
    one := fun h u hu => by
      obtain ⟨v0, h, h0⟩ := h
      subst h
      simp at hu
      rcases hu with rfl | rfl | rfl
      all_goals first | rfl | exact SlR.oneCell (by assumption)
    step := fun h s => by
      obtain ⟨v0, h, h0⟩ := h
      exact ⟨v0, h, h0.step s⟩ }
structure ref32_Consents where
  made : Bool
  pairs : List ref32_pair
  deriving DecidableEq
def ref32_Consents.c : Cdc ref32_Consents :=
  { size := 2, rd := fun A w cs x => ∃ v0, cs = [.bool x.made, v0] ∧ SlR ref32_pair.c A w v0 x.pairs
    len := fun h => by obtain ⟨_, h, _⟩ := h; rw [h]; rfl
    one := fun h u hu => by
      obtain ⟨v0, h, h0⟩ := h
      subst h
      simp at hu
      rcases hu with rfl | rfl
      all_goals first | rfl | exact SlR.oneCell (by assumption)
    step := fun h s => by
      obtain ⟨v0, h, h0⟩ := h
      exact ⟨v0, h, h0.step s⟩ }
def ref32_Consents.O (τ : Nat → Nat) (ρ : Tags) (w : World) (g : Nat) (x : ref32_Consents) : Prop := ∃ v0, Blk ρ (τ 0) w g (.cells #[.bool x.made, v0] 55 (0, 0)) ∧ OwnT ref32_pair.c 63 ρ (τ 1) w v0 x.pairs
def law32_light_L2 (r0 : List law32_Op → Int → Option (Bool)) : Nat → List law32_Op → Int → Int → Option (Bool)
  | 0, _, _, _ => none
  | n + 1, l_0, i_3, k_4 =>
    (idx l_0 i_3).bind fun y50 =>
      if decide (k_4 < (y50.Scopes.length : Int)) then
        (idx l_0 i_3).bind fun y59 =>
          (idx y59.Scopes k_4).bind fun y67 =>
            if decide ((y67.length : Int) > 200) then
              some (false)
            else
              (law32_light_L2 r0 n) l_0 i_3 (IntKind.i64.wrap (k_4 + 1))
      else
        r0 l_0 (IntKind.i64.wrap (i_3 + 1))
def law32_light_L1 : Nat → List law32_Op → Int → Option (Bool)
  | 0, _, _ => none
  | n + 1, l_0, i_3 =>
    if (decide (i_3 < (l_0.length : Int))) && (decide (i_3 < 24)) then
      (idx l_0 i_3).bind fun y11 =>
        Option.bind (if decide ((y11.User.length : Int) > 200) then
            some true
          else
            (idx l_0 i_3).bind fun y26 =>
              some (decide ((y26.Client.length : Int) > 200))
          ) fun z21 =>
          Option.bind (if z21 then
              some true
            else
              (idx l_0 i_3).bind fun y41 =>
                some (decide ((y41.Scopes.length : Int) > 20))
            ) fun z36 =>
            if z36 then
              some (false)
            else
              law32_light_L2 (law32_light_L1 n) fuel l_0 i_3 0
    else
      some (decide ((l_0.length : Int) ≤ 24))
def law32_light (l_0 : List law32_Op) : Option (Bool) :=
  law32_light_L1 fuel l_0 0
def consent_New : Option (consent_Consents) :=
  some ((consent_Consents.mk (some [] : GMap consent_pair (GMap Str Int))))
def fold_upper (c_0 : Int) : Option (Bool) :=
  some ((decide (c_0 ≥ 65)) && (decide (c_0 ≤ 90)))
def fold_letter (c_0 : Int) : Option (Bool) :=
  (fold_upper c_0).bind fun y1 =>
    some (y1 || ((decide (c_0 ≥ 97)) && (decide (c_0 ≤ 122))))
def fold_digit (c_0 : Int) : Option (Bool) :=
  some ((decide (c_0 ≥ 48)) && (decide (c_0 ≤ 57)))
def fold_Word_1 (c_0 : Int) : Option (Bool) :=
  (fold_letter c_0).bind fun y1 =>
    Option.bind (if y1 then
        some true
      else
        (fold_digit c_0).bind fun y12 =>
          some y12
      ) fun z7 =>
      some ((((z7 || (c_0 == 45)) || (c_0 == 95)) || (c_0 == 46)) || (c_0 == 58))
def fold_made__Word_1_L1 : Nat → Str → Int → Int → Option (Bool)
  | 0, _, _, _ => none
  | n + 1, s_0, t_7, t_8 =>
    if decide (t_8 < t_7) then
      chk (inb t_8 s_0.length) (
        (fold_Word_1 (byteAt s_0 t_8)).bind fun y3 =>
          if !y3 then
            some (false)
          else
            (fold_made__Word_1_L1 n) s_0 t_7 (IntKind.i64.wrap (t_8 + 1)))
    else
      some ((!(s_0 == ([]))) && (decide ((s_0.length : Int) ≤ 64)))
def fold_made__Word_1 (s_0 : Str) : Option (Bool) :=
  fold_made__Word_1_L1 fuel s_0 (s_0.length : Int) 0
def fold_Word (s_0 : Str) : Option (Bool) :=
  (fold_made__Word_1 s_0).bind fun y1 =>
    some (y1)
def scope_valid (s_0 : Str) : Option (Bool) :=
  (fold_Word s_0).bind fun y1 =>
    Option.bind (if y1 then
        chk (inb 0 s_0.length) (
          some ((byteAt s_0 0) != 46))
      else
        some false
      ) fun z7 =>
      Option.bind (if z7 then
          chk (inb (IntKind.i64.wrap ((s_0.length : Int) - 1)) s_0.length) (
            some ((byteAt s_0 (IntKind.i64.wrap ((s_0.length : Int) - 1))) != 46))
        else
          some false
        ) fun z15 =>
        Option.bind (if z15 then
            (lib_Contains s_0 ([46, 46])).bind fun y28 =>
              some (!y28)
          else
            some false
          ) fun z23 =>
          some (z23)
def slices_Index_string_string_L1 : Nat → List Str → Str → Int → Int → Option (Int)
  | 0, _, _, _, _ => none
  | n + 1, s_0, v_1, t_7, t_8 =>
    if decide (t_8 < t_7) then
      (idx s_0 t_8).bind fun y4 =>
        if v_1 == y4 then
          some (t_8)
        else
          (slices_Index_string_string_L1 n) s_0 v_1 t_7 (IntKind.i64.wrap (t_8 + 1))
    else
      some ((-1))
def slices_Index_string_string (s_0 : List Str) (v_1 : Str) : Option (Int) :=
  slices_Index_string_string_L1 fuel s_0 v_1 (s_0.length : Int) 0
def slices_Contains_string_string (s_0 : List Str) (v_1 : Str) : Option (Bool) :=
  (slices_Index_string_string s_0 v_1).bind fun y3 =>
    some (decide (y3 ≥ 0))
def scope_Check_L1 : Nat → List Str → List Str → Int → Int → Option (Int)
  | 0, _, _, _, _ => none
  | n + 1, l_0, t_8, t_9, t_10 =>
    if decide (t_10 < t_9) then
      (idx t_8 t_10).bind fun y5 =>
        (scope_valid y5).bind fun y11 =>
          if !y11 then
            some (5)
          else
            chk (inc 0 t_10 l_0.length) (
              (slices_Contains_string_string (cut l_0 0 t_10) y5).bind fun y19 =>
                if y19 then
                  some (7)
                else
                  (scope_Check_L1 n) l_0 t_8 t_9 (IntKind.i64.wrap (t_10 + 1)))
    else
      some (0)
def scope_Check (l_0 : List Str) : Option (Int) :=
  if decide ((l_0.length : Int) > 16) then
    some (3)
  else
    scope_Check_L1 fuel l_0 l_0 (l_0.length : Int) 0
def clock_limited (t_0 : Int) : Option (Int) :=
  some (gmin (gmax t_0 0) 1099511627776)
def clock_Add (t_0 : Int) (d_1 : Int) : Option (Int) :=
  (clock_limited t_0).bind fun y1 =>
    (clock_limited d_1).bind fun y5 =>
      (clock_limited (IntKind.i64.wrap (y1 + y5))).bind fun y9 =>
        some (y9)
def consent_Consents_Grant_B2 (r0 : consent_Consents → List Str → Int → Int → Str → Str → GMap Str Int → GMap Str Int → List Str → Option (Int × consent_Consents)) (oc_0 : consent_Consents) (scopes_3 : List Str) (end_14 : Int) (at_15 : Int) (p_16_0 : Str) (p_16_1 : Str) (l_19 : GMap Str Int) (t_80m : GMap Str Int) (t_80 : List Str) : Option (Int × consent_Consents) :=
  r0 oc_0 scopes_3 end_14 at_15 p_16_0 p_16_1 l_19 t_80m t_80
def consent_Consents_Grant_L3 (r0 : consent_Consents → List Str → Int → Int → Str → Str → GMap Str Int → GMap Str Int → List Str → Option (Int × consent_Consents)) : Nat → consent_Consents → Int → Str → Str → GMap Str Int → List Str → Int → Int → Option (Int × consent_Consents)
  | 0, _, _, _, _, _, _, _, _ => none
  | n + 1, oc_0, end_14, p_16_0, p_16_1, l_19, t_92, t_93, t_94 =>
    if decide (t_94 < t_93) then
      (idx t_92 t_94).bind fun y101 =>
        (some (mgetD l_19 y101 0)).bind fun y112 =>
          chk l_19.isSome (
            (consent_Consents_Grant_L3 r0 n) oc_0 end_14 p_16_0 p_16_1 (mput l_19 y101 (gmax y112 end_14)) t_92 t_93 (IntKind.i64.wrap (t_94 + 1)))
    else
      if decide ((mlen l_19) > 16) then
        some (3, oc_0)
      else
        chk oc_0.pairs.isSome (
          some (0, (consent_Consents.mk (mput oc_0.pairs (consent_pair.mk p_16_0 p_16_1) (canon l_19)))))
def consent_Consents_Grant_L1 : Nat → consent_Consents → List Str → Int → Int → Str → Str → GMap Str Int → GMap Str Int → List Str → Option (Int × consent_Consents)
  | 0, _, _, _, _, _, _, _, _, _ => none
  | n + 1, oc_0, scopes_3, end_14, at_15, p_16_0, p_16_1, l_19, t_80m, t_80 =>
    pickAny (mleft t_80m t_80) (
        consent_Consents_Grant_L3 (consent_Consents_Grant_L1 n) fuel oc_0 end_14 p_16_0 p_16_1 l_19 scopes_3 (scopes_3.length : Int) 0)
      fun e84 =>
        if decide (e84.2 > at_15) then
          chk l_19.isSome (
            consent_Consents_Grant_B2 (consent_Consents_Grant_L1 n) oc_0 scopes_3 end_14 at_15 p_16_0 p_16_1 (mput l_19 e84.1 e84.2) t_80m (e84.1 :: t_80))
        else
          consent_Consents_Grant_B2 (consent_Consents_Grant_L1 n) oc_0 scopes_3 end_14 at_15 p_16_0 p_16_1 l_19 t_80m (e84.1 :: t_80)
def consent_Consents_Grant (c_0 : consent_Consents) (user_1 : Str) (client_2 : Str) (scopes_3 : List Str) (until_4 : Int) (now_5 : Int) : Option (Int × consent_Consents) :=
  if c_0.pairs.isNone then
    some (1, c_0)
  else
    (fold_Word user_1).bind fun y7 =>
      Option.bind (if !y7 then
          some true
        else
          (fold_Word client_2).bind fun y20 =>
            some (!y20)
        ) fun z14 =>
        if z14 then
          some (5, c_0)
        else
          (scope_Check scopes_3).bind fun y26 =>
            if y26 != 0 then
              some (y26, c_0)
            else
              if (scopes_3.length : Int) == 0 then
                some (6, c_0)
              else
                (clock_Add until_4 0).bind fun y33 =>
                  (clock_Add now_5 0).bind fun y38 =>
                    if decide (y33 ≤ y38) then
                      some (13, c_0)
                    else
                      (some (mgetD c_0.pairs (consent_pair.mk user_1 client_2) (none : GMap Str Int))).bind fun y57 =>
                        if (!(mhas c_0.pairs (consent_pair.mk user_1 client_2))) && (decide ((mlen c_0.pairs) ≥ 256)) then
                          some (3, c_0)
                        else
                          consent_Consents_Grant_L1 fuel c_0 scopes_3 y33 y38 user_1 client_2 (some [] : GMap Str Int) y57 ([] : List Str)
def consent_Consents_valid_B2 (r0 : Int → List Str → GMap Str Int → List Str → Option (List Str)) (now_2 : Int) (out_7 : List Str) (t_16m : GMap Str Int) (t_16 : List Str) : Option (List Str) :=
  r0 now_2 out_7 t_16m t_16
def consent_Consents_valid_L1 : Nat → Int → List Str → GMap Str Int → List Str → Option (List Str)
  | 0, _, _, _, _ => none
  | n + 1, now_2, out_7, t_16m, t_16 =>
    pickAny (mleft t_16m t_16) (
        some (sortS out_7))
      fun e59 =>
        (clock_Add now_2 0).bind fun y65 =>
          if decide (e59.2 > y65) then
            chk (fitL out_7.length ([e59.1] : List Str).length) (
              consent_Consents_valid_B2 (consent_Consents_valid_L1 n) now_2 (out_7 ++ ([e59.1] : List Str)) t_16m (e59.1 :: t_16))
          else
            consent_Consents_valid_B2 (consent_Consents_valid_L1 n) now_2 out_7 t_16m (e59.1 :: t_16)
def consent_Consents_valid (c_0 : consent_Consents) (p_1 : consent_pair) (now_2 : Int) : Option (List Str) :=
  (some (mgetD c_0.pairs p_1 (none : GMap Str Int))).bind fun y47 =>
    consent_Consents_valid_L1 fuel now_2 ([] : List Str) y47 ([] : List Str)
def internal_stringslite_HasPrefix (s_0 : Str) (prefix_1 : Str) : Option (Bool) :=
  Option.bind (if decide ((s_0.length : Int) ≥ (prefix_1.length : Int)) then
      chk (inc 0 (prefix_1.length : Int) s_0.length) (
        some ((cut s_0 0 (prefix_1.length : Int)) == prefix_1))
    else
      some false
    ) fun z3 =>
    some (z3)
def strings_HasPrefix (s_0 : Str) (prefix_1 : Str) : Option (Bool) :=
  (internal_stringslite_HasPrefix s_0 prefix_1).bind fun y1 =>
    some (y1)
def scope_Implies (a_0 : Str) (b_1 : Str) : Option (Bool) :=
  (scope_valid a_0).bind fun y1 =>
    Option.bind (if y1 then
        (scope_valid b_1).bind fun y12 =>
          some y12
      else
        some false
      ) fun z7 =>
      Option.bind (if z7 then
          Option.bind (if a_0 == b_1 then
              some true
            else
              chk (fitS a_0 ([46])) (
                (strings_HasPrefix b_1 (a_0 ++ ([46]))).bind fun y31 =>
                  some y31)
            ) fun z25 =>
            some z25
        else
          some false
        ) fun z18 =>
        some (z18)
def scope_Sorted_B2 (r0 : List Str → List Str → List Str → Int → Int → Option (List Str)) (l_0 : List Str) (out_3 : List Str) (t_8 : List Str) (t_9 : Int) (t_10 : Int) : Option (List Str) :=
  r0 l_0 out_3 t_8 t_9 (IntKind.i64.wrap (t_10 + 1))
def scope_Sorted_L3 (r0 : List Str → List Str → List Str → Int → Int → Option (List Str)) : Nat → List Str → List Str → Str → List Str → Int → Int → List Str → Int → Int → Option (List Str)
  | 0, _, _, _, _, _, _, _, _, _ => none
  | n + 1, l_0, out_3, s_5, t_8, t_9, t_10, t_25, t_26, t_27 =>
    if decide (t_27 < t_26) then
      (idx t_25 t_27).bind fun y38 =>
        Option.bind (if !(y38 == s_5) then
            (scope_Implies y38 s_5).bind fun y51 =>
              some y51
          else
            some false
          ) fun z46 =>
          if z46 then
            scope_Sorted_B2 r0 l_0 out_3 t_8 t_9 t_10
          else
            (scope_Sorted_L3 r0 n) l_0 out_3 s_5 t_8 t_9 t_10 t_25 t_26 (IntKind.i64.wrap (t_27 + 1))
    else
      chk (fitL out_3.length ([s_5] : List Str).length) (
        scope_Sorted_B2 r0 l_0 (out_3 ++ ([s_5] : List Str)) t_8 t_9 t_10)
def scope_Sorted_L1 : Nat → List Str → List Str → List Str → Int → Int → Option (List Str)
  | 0, _, _, _, _, _ => none
  | n + 1, l_0, out_3, t_8, t_9, t_10 =>
    if decide (t_10 < t_9) then
      (idx t_8 t_10).bind fun y8 =>
        (scope_valid y8).bind fun y14 =>
          Option.bind (if !y14 then
              some true
            else
              chk (inc 0 t_10 l_0.length) (
                (slices_Contains_string_string (cut l_0 0 t_10) y8).bind fun y28 =>
                  some y28)
            ) fun z20 =>
            if z20 then
              scope_Sorted_B2 (scope_Sorted_L1 n) l_0 out_3 t_8 t_9 t_10
            else
              scope_Sorted_L3 (scope_Sorted_L1 n) fuel l_0 out_3 y8 t_8 t_9 t_10 l_0 (l_0.length : Int) 0
    else
      (lib_Sort out_3).bind fun y74 =>
        some (y74)
def scope_Sorted (l_0 : List Str) : Option (List Str) :=
  scope_Sorted_L1 fuel l_0 ([] : List Str) l_0 (l_0.length : Int) 0
def consent_Consents_Scopes (c_0 : consent_Consents) (user_1 : Str) (client_2 : Str) (now_3 : Int) : Option (List Str) :=
  (consent_Consents_valid c_0 (consent_pair.mk user_1 client_2) now_3).bind fun y6 =>
    permAny y6 fun p11 =>
      (scope_Sorted p11).bind fun y15 =>
        some (y15)
def scope_covered_L1 : Nat → Str → List Str → Int → Int → Option (Bool)
  | 0, _, _, _, _ => none
  | n + 1, s_0, t_7, t_8, t_9 =>
    if decide (t_9 < t_8) then
      (idx t_7 t_9).bind fun y4 =>
        (scope_Implies y4 s_0).bind fun y10 =>
          if y10 then
            some (true)
          else
            (scope_covered_L1 n) s_0 t_7 t_8 (IntKind.i64.wrap (t_9 + 1))
    else
      some (false)
def scope_covered (s_0 : Str) (l_1 : List Str) : Option (Bool) :=
  scope_covered_L1 fuel s_0 l_1 (l_1.length : Int) 0
def scope_Within_L1 : Nat → List Str → List Str → Int → Int → Option (Bool)
  | 0, _, _, _, _ => none
  | n + 1, b_1, t_7, t_8, t_9 =>
    if decide (t_9 < t_8) then
      (idx t_7 t_9).bind fun y6 =>
        (scope_covered y6 b_1).bind fun y12 =>
          if !y12 then
            some (false)
          else
            (scope_Within_L1 n) b_1 t_7 t_8 (IntKind.i64.wrap (t_9 + 1))
    else
      some (true)
def scope_Within (a_0 : List Str) (b_1 : List Str) : Option (Bool) :=
  scope_Within_L1 fuel b_1 a_0 (a_0.length : Int) 0
def consent_Consents_Covers (c_0 : consent_Consents) (user_1 : Str) (client_2 : Str) (scopes_3 : List Str) (now_4 : Int) : Option (Bool) :=
  Option.bind (if !c_0.pairs.isNone then
      (consent_Consents_Scopes c_0 user_1 client_2 now_4).bind fun y14 =>
        (scope_Within scopes_3 y14).bind fun y21 =>
          some y21
    else
      some false
    ) fun z8 =>
    some (z8)
def consent_Consents_Clients_B2 (r0 : consent_Consents → Str → Int → List Str → List consent_pair → Option (List Str)) (oc_0 : consent_Consents) (user_1 : Str) (now_2 : Int) (out_7 : List Str) (t_15 : List consent_pair) : Option (List Str) :=
  r0 oc_0 user_1 now_2 out_7 t_15
def consent_Consents_Clients_L1 : Nat → consent_Consents → Str → Int → List Str → List consent_pair → Option (List Str)
  | 0, _, _, _, _, _ => none
  | n + 1, oc_0, user_1, now_2, out_7, t_15 =>
    pickAny (mleft oc_0.pairs t_15) (
        (lib_Sort out_7).bind fun y65 =>
          some (y65))
      fun e16 =>
        Option.bind (if e16.1.user == user_1 then
            (consent_Consents_valid oc_0 e16.1 now_2).bind fun y39 =>
              permAny y39 fun p44 =>
                some (decide ((p44.length : Int) > 0))
          else
            some false
          ) fun z33 =>
          if z33 then
            chk (fitL out_7.length ([e16.1.client] : List Str).length) (
              consent_Consents_Clients_B2 (consent_Consents_Clients_L1 n) oc_0 user_1 now_2 (out_7 ++ ([e16.1.client] : List Str)) (e16.1 :: t_15))
          else
            consent_Consents_Clients_B2 (consent_Consents_Clients_L1 n) oc_0 user_1 now_2 out_7 (e16.1 :: t_15)
def consent_Consents_Clients (c_0 : consent_Consents) (user_1 : Str) (now_2 : Int) : Option (List Str) :=
  consent_Consents_Clients_L1 fuel c_0 user_1 now_2 ([] : List Str) ([] : List consent_pair)
def consent_Consents_Drop_1 (p_0 : consent_pair) (__1 : GMap Str Int) (c2 : Str) : Option (Bool) :=
  some (p_0.user == c2)
def maps_DeleteFunc_map_consent_pair_map_string_int_consent_pair_map_string_int__Consents_Drop_1_B2 (r0 : GMap consent_pair (GMap Str Int) → Str → List consent_pair → Option (GMap consent_pair (GMap Str Int))) (m_0 : GMap consent_pair (GMap Str Int)) (del_1_c0 : Str) (t_7 : List consent_pair) : Option (GMap consent_pair (GMap Str Int)) :=
  r0 m_0 del_1_c0 t_7
def maps_DeleteFunc_map_consent_pair_map_string_int_consent_pair_map_string_int__Consents_Drop_1_L1 : Nat → GMap consent_pair (GMap Str Int) → Str → List consent_pair → Option (GMap consent_pair (GMap Str Int))
  | 0, _, _, _ => none
  | n + 1, m_0, del_1_c0, t_7 =>
    pickAny (mleft m_0 t_7) (
        some (m_0))
      fun e10 =>
        (consent_Consents_Drop_1 e10.1 e10.2 del_1_c0).bind fun y25 =>
          if y25 then
            maps_DeleteFunc_map_consent_pair_map_string_int_consent_pair_map_string_int__Consents_Drop_1_B2 (maps_DeleteFunc_map_consent_pair_map_string_int_consent_pair_map_string_int__Consents_Drop_1_L1 n) (mdel m_0 e10.1) del_1_c0 (e10.1 :: t_7)
          else
            maps_DeleteFunc_map_consent_pair_map_string_int_consent_pair_map_string_int__Consents_Drop_1_B2 (maps_DeleteFunc_map_consent_pair_map_string_int_consent_pair_map_string_int__Consents_Drop_1_L1 n) m_0 del_1_c0 (e10.1 :: t_7)
def maps_DeleteFunc_map_consent_pair_map_string_int_consent_pair_map_string_int__Consents_Drop_1 (m_0 : GMap consent_pair (GMap Str Int)) (c1_0 : Str) : Option (GMap consent_pair (GMap Str Int)) :=
  maps_DeleteFunc_map_consent_pair_map_string_int_consent_pair_map_string_int__Consents_Drop_1_L1 fuel m_0 c1_0 ([] : List consent_pair)
def consent_Consents_Drop (c_0 : consent_Consents) (user_1 : Str) : Option (Int × consent_Consents) :=
  (maps_DeleteFunc_map_consent_pair_map_string_int_consent_pair_map_string_int__Consents_Drop_1 c_0.pairs user_1).bind fun y11 =>
    some (IntKind.i64.wrap ((mlen c_0.pairs) - (mlen y11)), (consent_Consents.mk y11))
def ref03_Same_L1 : Nat → List Str → List Str → Int → Option (Bool)
  | 0, _, _, _ => none
  | n + 1, a_0, b_1, i_5 =>
    if decide (i_5 < (a_0.length : Int)) then
      (idx a_0 i_5).bind fun y9 =>
        (idx b_1 i_5).bind fun y15 =>
          if !(y9 == y15) then
            some (false)
          else
            (ref03_Same_L1 n) a_0 b_1 (IntKind.i64.wrap (i_5 + 1))
    else
      some (true)
def ref03_Same (a_0 : List Str) (b_1 : List Str) : Option (Bool) :=
  if (a_0.length : Int) != (b_1.length : Int) then
    some (false)
  else
    ref03_Same_L1 fuel a_0 b_1 0
def consent_Consents_Len (c_0 : consent_Consents) : Option (Int) :=
  some (mlen c_0.pairs)
def consent_Consents_Revoke (c_0 : consent_Consents) (user_1 : Str) (client_2 : Str) : Option (Bool × consent_Consents) :=
  (some (mgetD c_0.pairs (consent_pair.mk user_1 client_2) (none : GMap Str Int))).bind fun y17 =>
    some (mhas c_0.pairs (consent_pair.mk user_1 client_2), (consent_Consents.mk (mdel c_0.pairs (consent_pair.mk user_1 client_2))))
def consent_Consents_Grant__nil (user_1 : Str) (client_2 : Str) (scopes_3 : List Str) (until_4 : Int) (now_5 : Int) : Option (Int) :=
  some (1)
def consent_Consents_Covers__nil (user_1 : Str) (client_2 : Str) (scopes_3 : List Str) (now_4 : Int) : Option (Bool) :=
  some (false)
def law32_awake : Option (Bool) :=
  (consent_New).bind fun y1 =>
    (consent_Consents_Grant y1 ([97, 110, 110]) ([119, 101, 98]) ([[109, 97, 105, 108]] : List Str) 10 0).bind fun y16 =>
      (consent_Consents_Grant y16.2 ([97, 110, 110]) ([119, 101, 98]) ([[109, 97, 105, 108]] : List Str) 5 0).bind fun y30 =>
        (consent_Consents_Grant y30.2 ([97, 110, 110]) ([97, 112, 112]) ([[97]] : List Str) 3 3).bind fun y44 =>
          (consent_Consents_Scopes y44.2 ([97, 110, 110]) ([119, 101, 98]) 9).bind fun y53 =>
            (consent_Consents_Covers y44.2 ([97, 110, 110]) ([119, 101, 98]) ([[109, 97, 105, 108, 46, 114, 101, 97, 100]] : List Str) 9).bind fun y65 =>
              (consent_Consents_Covers y44.2 ([97, 110, 110]) ([119, 101, 98]) ([[109, 97, 105, 108, 46, 114, 101, 97, 100]] : List Str) 10).bind fun y75 =>
                (consent_Consents_Clients y44.2 ([97, 110, 110]) 9).bind fun y80 =>
                  (consent_Consents_Drop y44.2 ([97, 110, 110])).bind fun y87 =>
                    Option.bind (if ((y16.1 == 0) && (y30.1 == 0)) && (y44.1 == 13) then
                        (ref03_Same y53 ([[109, 97, 105, 108]] : List Str)).bind fun y125 =>
                          some y125
                      else
                        some false
                      ) fun z114 =>
                      Option.bind (if (z114 && y65) && (!y75) then
                          (ref03_Same y80 ([[119, 101, 98]] : List Str)).bind fun y159 =>
                            some y159
                        else
                          some false
                        ) fun z148 =>
                        Option.bind (if z148 && (y87.1 == 1) then
                            (consent_Consents_Len y87.2).bind fun y180 =>
                              some (y180 == 0)
                          else
                            some false
                          ) fun z174 =>
                          Option.bind (if z174 then
                              (consent_Consents_Revoke y87.2 ([97, 110, 110]) ([119, 101, 98])).bind fun y193 =>
                                some (!y193.1, y193.2)
                            else
                              some (false, y87.2)
                            ) fun z187 =>
                            Option.bind (if z187.1 then
                                (consent_Consents_Grant__nil ([97, 110, 110]) ([119, 101, 98]) ([[97]] : List Str) 5 0).bind fun y218 =>
                                  some (y218 == 1)
                              else
                                some false
                              ) fun z207 =>
                              Option.bind (if z207 then
                                  (consent_Consents_Covers__nil ([97, 110, 110]) ([119, 101, 98]) ([] : List Str) 0).bind fun y231 =>
                                    some true
                                else
                                  some false
                                ) fun z225 =>
                                some (z225)
def ref32_New : Option (ref32_Consents) :=
  some ((ref32_Consents.mk true ([] : List ref32_pair)))
def law32_yes (b_0 : Bool) : Option (Int) :=
  if b_0 then
    some (1)
  else
    some (0)
def law32_do (c_0 : consent_Consents) (x_1 : law32_Op) : Option (Int × consent_Consents) :=
  if x_1.Call == 0 then
    (consent_Consents_Grant c_0 x_1.User x_1.Client x_1.Scopes x_1.Until x_1.Now).bind fun y12 =>
      some (y12.1, y12.2)
  else
    if x_1.Call == 1 then
      (consent_Consents_Revoke c_0 x_1.User x_1.Client).bind fun y22 =>
        (law32_yes y22.1).bind fun y31 =>
          some (y31, y22.2)
    else
      if x_1.Call == 2 then
        (consent_Consents_Drop c_0 x_1.User).bind fun y37 =>
          some (y37.1, y37.2)
      else
        (consent_Consents_Covers c_0 x_1.User x_1.Client x_1.Scopes x_1.Now).bind fun y46 =>
          (law32_yes y46).bind fun y51 =>
            some (y51, c_0)
def ref32_Consents_Made (c_0 : ref32_Consents) : Option (Bool) :=
  some (c_0.made)
def ref22_Limited (n_0 : Int) : Option (Int) :=
  some (gmax 0 (gmin n_0 1099511627776))
def ref01_letter (c_0 : Int) : Option (Bool) :=
  some (((decide (c_0 ≥ 97)) && (decide (c_0 ≤ 122))) || ((decide (c_0 ≥ 65)) && (decide (c_0 ≤ 90))))
def ref01_digit (c_0 : Int) : Option (Bool) :=
  some ((decide (c_0 ≥ 48)) && (decide (c_0 ≤ 57)))
def ref01_Word_L1 : Nat → Str → Int → Option (Bool)
  | 0, _, _ => none
  | n + 1, s_0, i_3 =>
    if decide (i_3 < (s_0.length : Int)) then
      chk (inb i_3 s_0.length) (
        (ref01_letter (byteAt s_0 i_3)).bind fun y3 =>
          Option.bind (if !y3 then
              chk (inb i_3 s_0.length) (
                (ref01_digit (byteAt s_0 i_3)).bind fun y15 =>
                  some (!y15))
            else
              some false
            ) fun z9 =>
            Option.bind (if z9 then
                chk (inb i_3 s_0.length) (
                  some ((byteAt s_0 i_3) != 45))
              else
                some false
              ) fun z21 =>
              Option.bind (if z21 then
                  chk (inb i_3 s_0.length) (
                    some ((byteAt s_0 i_3) != 95))
                else
                  some false
                ) fun z29 =>
                Option.bind (if z29 then
                    chk (inb i_3 s_0.length) (
                      some ((byteAt s_0 i_3) != 46))
                  else
                    some false
                  ) fun z37 =>
                  Option.bind (if z37 then
                      chk (inb i_3 s_0.length) (
                        some ((byteAt s_0 i_3) != 58))
                    else
                      some false
                    ) fun z45 =>
                    if z45 then
                      some (false)
                    else
                      (ref01_Word_L1 n) s_0 (IntKind.i64.wrap (i_3 + 1)))
    else
      some ((decide ((s_0.length : Int) ≥ 1)) && (decide ((s_0.length : Int) ≤ 64)))
def ref01_Word (s_0 : Str) : Option (Bool) :=
  ref01_Word_L1 fuel s_0 0
def ref29_Valid_L1 : Nat → Str → Int → Option (Bool)
  | 0, _, _ => none
  | n + 1, s_0, i_3 =>
    if decide (i_3 < (s_0.length : Int)) then
      chk (inb i_3 s_0.length) (
        Option.bind (if (byteAt s_0 i_3) == 46 then
            chk (inb (IntKind.i64.wrap (i_3 - 1)) s_0.length) (
              some ((byteAt s_0 (IntKind.i64.wrap (i_3 - 1))) == 46))
          else
            some false
          ) fun z26 =>
          if z26 then
            some (false)
          else
            (ref29_Valid_L1 n) s_0 (IntKind.i64.wrap (i_3 + 1)))
    else
      some (true)
def ref29_Valid (s_0 : Str) : Option (Bool) :=
  (ref01_Word s_0).bind fun y1 =>
    Option.bind (if !y1 then
        some true
      else
        chk (inb 0 s_0.length) (
          some ((byteAt s_0 0) == 46))
      ) fun z7 =>
      Option.bind (if z7 then
          some true
        else
          chk (inb (IntKind.i64.wrap ((s_0.length : Int) - 1)) s_0.length) (
            some ((byteAt s_0 (IntKind.i64.wrap ((s_0.length : Int) - 1))) == 46))
        ) fun z15 =>
        if z15 then
          some (false)
        else
          ref29_Valid_L1 fuel s_0 1
def ref29_Check_L2 (r0 : List Str → Int → Option (Int)) : Nat → List Str → Int → Int → Option (Int)
  | 0, _, _, _ => none
  | n + 1, l_0, i_3, k_4 =>
    if decide (k_4 < i_3) then
      (idx l_0 k_4).bind fun y19 =>
        (idx l_0 i_3).bind fun y25 =>
          if y19 == y25 then
            some (7)
          else
            (ref29_Check_L2 r0 n) l_0 i_3 (IntKind.i64.wrap (k_4 + 1))
    else
      r0 l_0 (IntKind.i64.wrap (i_3 + 1))
def ref29_Check_L1 : Nat → List Str → Int → Option (Int)
  | 0, _, _ => none
  | n + 1, l_0, i_3 =>
    if decide (i_3 < (l_0.length : Int)) then
      (idx l_0 i_3).bind fun y5 =>
        (ref29_Valid y5).bind fun y11 =>
          if !y11 then
            some (5)
          else
            ref29_Check_L2 (ref29_Check_L1 n) fuel l_0 i_3 0
    else
      some (0)
def ref29_Check (l_0 : List Str) : Option (Int) :=
  if decide ((l_0.length : Int) > 16) then
    some (3)
  else
    ref29_Check_L1 fuel l_0 0
def ref32_Consents_find_L1 : Nat → ref32_Consents → Str → Str → Int → Option (Int)
  | 0, _, _, _, _ => none
  | n + 1, oc_0, user_1, client_2, i_7 =>
    if decide (i_7 < (oc_0.pairs.length : Int)) then
      (idx oc_0.pairs i_7).bind fun y8 =>
        Option.bind (if y8.user == user_1 then
            (idx oc_0.pairs i_7).bind fun y27 =>
              some (y27.client == client_2)
          else
            some false
          ) fun z21 =>
          if z21 then
            some (i_7)
          else
            (ref32_Consents_find_L1 n) oc_0 user_1 client_2 (IntKind.i64.wrap (i_7 + 1))
    else
      some ((-1))
def ref32_Consents_find (c_0 : ref32_Consents) (user_1 : Str) (client_2 : Str) : Option (Int) :=
  ref32_Consents_find_L1 fuel c_0 user_1 client_2 0
def ref32_joined_B2 (r0 : List ref32_item → List Str → Int → Int → List ref32_item → Int → Option (List ref32_item)) (l_0 : List ref32_item) (scopes_1 : List Str) (until_2 : Int) (now_3 : Int) (out_9 : List ref32_item) (i_10 : Int) : Option (List ref32_item) :=
  r0 l_0 scopes_1 until_2 now_3 out_9 (IntKind.i64.wrap (i_10 + 1))
def ref32_joined_B5 (r0 : List ref32_item → List Str → Int → Int → List ref32_item → Int → Option (List ref32_item)) (r1 : List Str → Int → List ref32_item → Int → Option (List ref32_item)) (r2 : List Str → Int → List ref32_item → Int → Bool → Int → Option (List ref32_item)) (scopes_1 : List Str) (until_2 : Int) (out_9 : List ref32_item) (k_11 : Int) (found_12 : Bool) (i_13 : Int) : Option (List ref32_item) :=
  r2 scopes_1 until_2 out_9 k_11 found_12 (IntKind.i64.wrap (i_13 + 1))
def ref32_joined_B6 (r0 : List ref32_item → List Str → Int → Int → List ref32_item → Int → Option (List ref32_item)) (r1 : List Str → Int → List ref32_item → Int → Option (List ref32_item)) (r2 : List Str → Int → List ref32_item → Int → Bool → Int → Option (List ref32_item)) (scopes_1 : List Str) (until_2 : Int) (out_9 : List ref32_item) (k_11 : Int) : Option (List ref32_item) :=
  r1 scopes_1 until_2 out_9 (IntKind.i64.wrap (k_11 + 1))
def ref32_joined_L4 (r0 : List ref32_item → List Str → Int → Int → List ref32_item → Int → Option (List ref32_item)) (r1 : List Str → Int → List ref32_item → Int → Option (List ref32_item)) : Nat → List Str → Int → List ref32_item → Int → Bool → Int → Option (List ref32_item)
  | 0, _, _, _, _, _, _ => none
  | n + 1, scopes_1, until_2, out_9, k_11, found_12, i_13 =>
    if decide (i_13 < (out_9.length : Int)) then
      (idx out_9 i_13).bind fun y46 =>
        (idx scopes_1 k_11).bind fun y55 =>
          if y46.scope == y55 then
            (idx out_9 i_13).bind fun y64 =>
              (idx out_9 i_13).bind fun y73 =>
                ref32_joined_B5 r0 r1 (ref32_joined_L4 r0 r1 n) scopes_1 until_2 (setAt out_9 i_13 (ref32_item.mk y73.scope (gmax y64.until_ until_2))) k_11 true i_13
          else
            ref32_joined_B5 r0 r1 (ref32_joined_L4 r0 r1 n) scopes_1 until_2 out_9 k_11 found_12 i_13
    else
      if !found_12 then
        (idx scopes_1 k_11).bind fun y87 =>
          chk (fitL out_9.length ([(ref32_item.mk y87 until_2)] : List ref32_item).length) (
            ref32_joined_B6 r0 r1 (ref32_joined_L4 r0 r1 n) scopes_1 until_2 (out_9 ++ ([(ref32_item.mk y87 until_2)] : List ref32_item)) k_11)
      else
        ref32_joined_B6 r0 r1 (ref32_joined_L4 r0 r1 n) scopes_1 until_2 out_9 k_11
def ref32_joined_L3 (r0 : List ref32_item → List Str → Int → Int → List ref32_item → Int → Option (List ref32_item)) : Nat → List Str → Int → List ref32_item → Int → Option (List ref32_item)
  | 0, _, _, _, _ => none
  | n + 1, scopes_1, until_2, out_9, k_11 =>
    if decide (k_11 < (scopes_1.length : Int)) then
      ref32_joined_L4 r0 (ref32_joined_L3 r0 n) fuel scopes_1 until_2 out_9 k_11 false 0
    else
      some (out_9)
def ref32_joined_L1 : Nat → List ref32_item → List Str → Int → Int → List ref32_item → Int → Option (List ref32_item)
  | 0, _, _, _, _, _, _ => none
  | n + 1, l_0, scopes_1, until_2, now_3, out_9, i_10 =>
    if decide (i_10 < (l_0.length : Int)) then
      (idx l_0 i_10).bind fun y10 =>
        if decide (y10.until_ > now_3) then
          (idx l_0 i_10).bind fun y18 =>
            chk (fitL out_9.length ([y18] : List ref32_item).length) (
              ref32_joined_B2 (ref32_joined_L1 n) l_0 scopes_1 until_2 now_3 (out_9 ++ ([y18] : List ref32_item)) i_10)
        else
          ref32_joined_B2 (ref32_joined_L1 n) l_0 scopes_1 until_2 now_3 out_9 i_10
    else
      ref32_joined_L3 (ref32_joined_L1 n) fuel scopes_1 until_2 out_9 0
def ref32_joined (l_0 : List ref32_item) (scopes_1 : List Str) (until_2 : Int) (now_3 : Int) : Option (List ref32_item) :=
  ref32_joined_L1 fuel l_0 scopes_1 until_2 now_3 ([] : List ref32_item) 0
def ref32_Consents_Grant_B2 (ogc_0 : ref32_Consents) : Option (Int × ref32_Consents) :=
  some (0, ogc_0)
def ref32_Consents_Grant_B1 (oc_0 : ref32_Consents) (scopes_3 : List Str) (until_4 : Int) (now_5 : Int) (i_14 : Int) (p_15_0 : Str) (p_15_1 : Str) (p_15_2 : List ref32_item) : Option (Int × ref32_Consents) :=
  (ref32_joined p_15_2 scopes_3 until_4 now_5).bind fun y87 =>
    if decide ((y87.length : Int) > 16) then
      some (3, oc_0)
    else
      if decide (i_14 ≥ 0) then
        (idx oc_0.pairs i_14).bind fun y130 =>
          ref32_Consents_Grant_B2 (ref32_Consents.mk oc_0.made (setAt oc_0.pairs i_14 (ref32_pair.mk p_15_0 p_15_1 y87)))
      else
        chk (fitL oc_0.pairs.length ([(ref32_pair.mk p_15_0 p_15_1 y87)] : List ref32_pair).length) (
          ref32_Consents_Grant_B2 (ref32_Consents.mk oc_0.made (oc_0.pairs ++ ([(ref32_pair.mk p_15_0 p_15_1 y87)] : List ref32_pair))))
def ref32_Consents_Grant (c_0 : ref32_Consents) (user_1 : Str) (client_2 : Str) (scopes_3 : List Str) (until_4 : Int) (now_5 : Int) : Option (Int × ref32_Consents) :=
  (ref32_Consents_Made c_0).bind fun y6 =>
    if !y6 then
      some (1, c_0)
    else
      (ref22_Limited until_4).bind fun y12 =>
        (ref22_Limited now_5).bind fun y17 =>
          (ref01_Word user_1).bind fun y22 =>
            Option.bind (if !y22 then
                some true
              else
                (ref01_Word client_2).bind fun y35 =>
                  some (!y35)
              ) fun z29 =>
              if z29 then
                some (5, c_0)
              else
                (ref29_Check scopes_3).bind fun y41 =>
                  if y41 != 0 then
                    some (y41, c_0)
                  else
                    if (scopes_3.length : Int) == 0 then
                      some (6, c_0)
                    else
                      if decide (y12 ≤ y17) then
                        some (13, c_0)
                      else
                        (ref32_Consents_find c_0 user_1 client_2).bind fun y49 =>
                          if (decide (y49 < 0)) && (decide ((c_0.pairs.length : Int) ≥ 256)) then
                            some (3, c_0)
                          else
                            if decide (y49 ≥ 0) then
                              (idx c_0.pairs y49).bind fun y71 =>
                                ref32_Consents_Grant_B1 c_0 scopes_3 y12 y17 y49 y71.user y71.client y71.items
                            else
                              ref32_Consents_Grant_B1 c_0 scopes_3 y12 y17 y49 user_1 client_2 ([] : List ref32_item)
def ref32_Consents_Revoke_B1 (gc_0_0 : Bool) (gc_0_1 : List ref32_pair) : Option (Bool × ref32_Consents) :=
  some (true, (ref32_Consents.mk gc_0_0 gc_0_1))
def ref32_Consents_Revoke (c_0 : ref32_Consents) (user_1 : Str) (client_2 : Str) : Option (Bool × ref32_Consents) :=
  (ref32_Consents_Made c_0).bind fun y4 =>
    if !y4 then
      some (false, c_0)
    else
      (ref32_Consents_find c_0 user_1 client_2).bind fun y10 =>
        if decide (y10 < 0) then
          some (false, c_0)
        else
          chk (inc 0 y10 c_0.pairs.length) (
            chk (fitL ([] : List ref32_pair).length (cut c_0.pairs 0 y10).length) (
              chk (inc (IntKind.i64.wrap (y10 + 1)) c_0.pairs.length c_0.pairs.length) (
                chk (fitL (([] : List ref32_pair) ++ (cut c_0.pairs 0 y10)).length (cut c_0.pairs (IntKind.i64.wrap (y10 + 1)) c_0.pairs.length).length) (
                  ref32_Consents_Revoke_B1 c_0.made ((([] : List ref32_pair) ++ (cut c_0.pairs 0 y10)) ++ (cut c_0.pairs (IntKind.i64.wrap (y10 + 1)) c_0.pairs.length))))))
def ref32_Consents_Drop_B2 (r0 : ref32_Consents → Str → List ref32_pair → Int → Option (Int × ref32_Consents)) (oc_0 : ref32_Consents) (user_1 : Str) (left_5 : List ref32_pair) (i_6 : Int) : Option (Int × ref32_Consents) :=
  r0 oc_0 user_1 left_5 (IntKind.i64.wrap (i_6 + 1))
def ref32_Consents_Drop_L1 : Nat → ref32_Consents → Str → List ref32_pair → Int → Option (Int × ref32_Consents)
  | 0, _, _, _, _ => none
  | n + 1, oc_0, user_1, left_5, i_6 =>
    if decide (i_6 < (oc_0.pairs.length : Int)) then
      (idx oc_0.pairs i_6).bind fun y14 =>
        if !(y14.user == user_1) then
          (idx oc_0.pairs i_6).bind fun y26 =>
            chk (fitL left_5.length ([y26] : List ref32_pair).length) (
              ref32_Consents_Drop_B2 (ref32_Consents_Drop_L1 n) oc_0 user_1 (left_5 ++ ([y26] : List ref32_pair)) i_6)
        else
          ref32_Consents_Drop_B2 (ref32_Consents_Drop_L1 n) oc_0 user_1 left_5 i_6
    else
      some (IntKind.i64.wrap ((oc_0.pairs.length : Int) - (left_5.length : Int)), (ref32_Consents.mk oc_0.made left_5))
def ref32_Consents_Drop (c_0 : ref32_Consents) (user_1 : Str) : Option (Int × ref32_Consents) :=
  (ref32_Consents_Made c_0).bind fun y4 =>
    if !y4 then
      some (0, c_0)
    else
      ref32_Consents_Drop_L1 fuel c_0 user_1 ([] : List ref32_pair) 0
def ref29_Implies (a_0 : Str) (b_1 : Str) : Option (Bool) :=
  (ref29_Valid a_0).bind fun y1 =>
    Option.bind (if y1 then
        (ref29_Valid b_1).bind fun y12 =>
          some y12
      else
        some false
      ) fun z7 =>
      Option.bind (if z7 then
          Option.bind (if a_0 == b_1 then
              some true
            else
              Option.bind (if decide ((b_1.length : Int) > (a_0.length : Int)) then
                  chk (inc 0 (IntKind.i64.wrap ((a_0.length : Int) + 1)) b_1.length) (
                    chk (fitS a_0 ([46])) (
                      some ((cut b_1 0 (IntKind.i64.wrap ((a_0.length : Int) + 1))) == (a_0 ++ ([46])))))
                else
                  some false
                ) fun z32 =>
                some z32
            ) fun z25 =>
            some z25
        else
          some false
        ) fun z18 =>
        some (z18)
def ref06_Insert_B3 (r0 : List Str → Str → List Str → Bool → Int → Option (List Str)) (l_0 : List Str) (s_1 : Str) (out_5 : List Str) (done_6 : Bool) (i_7 : Int) : Option (List Str) :=
  r0 l_0 s_1 out_5 done_6 (IntKind.i64.wrap (i_7 + 1))
def ref06_Insert_B2 (r0 : List Str → Str → List Str → Bool → Int → Option (List Str)) (l_0 : List Str) (s_1 : Str) (out_5 : List Str) (done_6 : Bool) (i_7 : Int) : Option (List Str) :=
  (idx l_0 i_7).bind fun y38 =>
    if !(y38 == s_1) then
      (idx l_0 i_7).bind fun y45 =>
        chk (fitL out_5.length ([y45] : List Str).length) (
          ref06_Insert_B3 r0 l_0 s_1 (out_5 ++ ([y45] : List Str)) done_6 i_7)
    else
      ref06_Insert_B3 r0 l_0 s_1 out_5 done_6 i_7
def ref06_Insert_B4 (r0 : List Str → Str → List Str → Bool → Int → Option (List Str)) (out_5 : List Str) : Option (List Str) :=
  some (out_5)
def ref06_Insert_L1 : Nat → List Str → Str → List Str → Bool → Int → Option (List Str)
  | 0, _, _, _, _, _ => none
  | n + 1, l_0, s_1, out_5, done_6, i_7 =>
    if decide (i_7 < (l_0.length : Int)) then
      Option.bind (if !done_6 then
          (idx l_0 i_7).bind fun y15 =>
            some (!sLt y15 s_1)
        else
          some false
        ) fun z10 =>
        if z10 then
          chk (fitL out_5.length ([s_1] : List Str).length) (
            ref06_Insert_B2 (ref06_Insert_L1 n) l_0 s_1 (out_5 ++ ([s_1] : List Str)) true i_7)
        else
          ref06_Insert_B2 (ref06_Insert_L1 n) l_0 s_1 out_5 done_6 i_7
    else
      if !done_6 then
        chk (fitL out_5.length ([s_1] : List Str).length) (
          ref06_Insert_B4 (ref06_Insert_L1 n) (out_5 ++ ([s_1] : List Str)))
      else
        ref06_Insert_B4 (ref06_Insert_L1 n) out_5
def ref06_Insert (l_0 : List Str) (s_1 : Str) : Option (List Str) :=
  ref06_Insert_L1 fuel l_0 s_1 ([] : List Str) false 0
def ref29_Sorted_B3 (r0 : List Str → List Str → Int → Option (List Str)) (r1 : List Str → List Str → Int → Bool → Int → Option (List Str)) (l_0 : List Str) (out_3 : List Str) (i_4 : Int) : Option (List Str) :=
  r0 l_0 out_3 (IntKind.i64.wrap (i_4 + 1))
def ref29_Sorted_L2 (r0 : List Str → List Str → Int → Option (List Str)) : Nat → List Str → List Str → Int → Bool → Int → Option (List Str)
  | 0, _, _, _, _, _ => none
  | n + 1, l_0, out_3, i_4, least_5, k_6 =>
    if decide (k_6 < (l_0.length : Int)) then
      Option.bind (if least_5 then
          (idx l_0 k_6).bind fun y30 =>
            (idx l_0 i_4).bind fun y36 =>
              Option.bind (if y30 == y36 then
                  some true
                else
                  (idx l_0 k_6).bind fun y49 =>
                    (idx l_0 i_4).bind fun y55 =>
                      (ref29_Implies y49 y55).bind fun y61 =>
                        some (!y61)
                ) fun z44 =>
                some z44
        else
          some false
        ) fun z25 =>
        (ref29_Sorted_L2 r0 n) l_0 out_3 i_4 z25 (IntKind.i64.wrap (k_6 + 1))
    else
      if least_5 then
        (idx l_0 i_4).bind fun y66 =>
          (ref06_Insert out_3 y66).bind fun y72 =>
            ref29_Sorted_B3 r0 (ref29_Sorted_L2 r0 n) l_0 y72 i_4
      else
        ref29_Sorted_B3 r0 (ref29_Sorted_L2 r0 n) l_0 out_3 i_4
def ref29_Sorted_L1 : Nat → List Str → List Str → Int → Option (List Str)
  | 0, _, _, _ => none
  | n + 1, l_0, out_3, i_4 =>
    if decide (i_4 < (l_0.length : Int)) then
      (idx l_0 i_4).bind fun y8 =>
        (ref29_Valid y8).bind fun y14 =>
          ref29_Sorted_L2 (ref29_Sorted_L1 n) fuel l_0 out_3 i_4 y14 0
    else
      some (out_3)
def ref29_Sorted (l_0 : List Str) : Option (List Str) :=
  ref29_Sorted_L1 fuel l_0 ([] : List Str) 0
def ref32_Consents_Scopes_B2 (r0 : ref32_Consents → Int → Int → List Str → Int → Option (List Str)) (oc_0 : ref32_Consents) (now_3 : Int) (i_9 : Int) (out_10 : List Str) (k_11 : Int) : Option (List Str) :=
  r0 oc_0 now_3 i_9 out_10 (IntKind.i64.wrap (k_11 + 1))
def ref32_Consents_Scopes_L1 : Nat → ref32_Consents → Int → Int → List Str → Int → Option (List Str)
  | 0, _, _, _, _, _ => none
  | n + 1, oc_0, now_3, i_9, out_10, k_11 =>
    Option.bind (if decide (i_9 ≥ 0) then
        (idx oc_0.pairs i_9).bind fun y35 =>
          some (decide (k_11 < (y35.items.length : Int)))
      else
        some false
      ) fun z29 =>
      if z29 then
        (idx oc_0.pairs i_9).bind fun y47 =>
          (idx y47.items k_11).bind fun y58 =>
            if decide (y58.until_ > now_3) then
              (idx oc_0.pairs i_9).bind fun y66 =>
                (idx y66.items k_11).bind fun y77 =>
                  chk (fitL out_10.length ([y77.scope] : List Str).length) (
                    ref32_Consents_Scopes_B2 (ref32_Consents_Scopes_L1 n) oc_0 now_3 i_9 (out_10 ++ ([y77.scope] : List Str)) k_11)
            else
              ref32_Consents_Scopes_B2 (ref32_Consents_Scopes_L1 n) oc_0 now_3 i_9 out_10 k_11
      else
        (ref29_Sorted out_10).bind fun y102 =>
          some (y102)
def ref32_Consents_Scopes (c_0 : ref32_Consents) (user_1 : Str) (client_2 : Str) (now_3 : Int) : Option (List Str) :=
  (ref32_Consents_Made c_0).bind fun y6 =>
    if !y6 then
      some (([] : List Str))
    else
      (ref22_Limited now_3).bind fun y12 =>
        (ref32_Consents_find c_0 user_1 client_2).bind fun y17 =>
          ref32_Consents_Scopes_L1 fuel c_0 y12 y17 ([] : List Str) 0
def ref29_covers_L1 : Nat → List Str → Str → Int → Option (Bool)
  | 0, _, _, _ => none
  | n + 1, l_0, s_1, i_5 =>
    if decide (i_5 < (l_0.length : Int)) then
      (idx l_0 i_5).bind fun y4 =>
        (ref29_Implies y4 s_1).bind fun y10 =>
          if y10 then
            some (true)
          else
            (ref29_covers_L1 n) l_0 s_1 (IntKind.i64.wrap (i_5 + 1))
    else
      some (false)
def ref29_covers (l_0 : List Str) (s_1 : Str) : Option (Bool) :=
  ref29_covers_L1 fuel l_0 s_1 0
def ref29_Within_L1 : Nat → List Str → List Str → Int → Option (Bool)
  | 0, _, _, _ => none
  | n + 1, a_0, b_1, i_5 =>
    if decide (i_5 < (a_0.length : Int)) then
      (idx a_0 i_5).bind fun y6 =>
        (ref29_covers b_1 y6).bind fun y12 =>
          if !y12 then
            some (false)
          else
            (ref29_Within_L1 n) a_0 b_1 (IntKind.i64.wrap (i_5 + 1))
    else
      some (true)
def ref29_Within (a_0 : List Str) (b_1 : List Str) : Option (Bool) :=
  ref29_Within_L1 fuel a_0 b_1 0
def ref32_Consents_Covers (c_0 : ref32_Consents) (user_1 : Str) (client_2 : Str) (scopes_3 : List Str) (now_4 : Int) : Option (Bool) :=
  (ref32_Consents_Made c_0).bind fun y6 =>
    Option.bind (if y6 then
        (ref32_Consents_Scopes c_0 user_1 client_2 now_4).bind fun y19 =>
          (ref29_Within scopes_3 y19).bind fun y26 =>
            some y26
      else
        some false
      ) fun z13 =>
      some (z13)
def law32_done (c_0 : ref32_Consents) (x_1 : law32_Op) : Option (Int × ref32_Consents) :=
  if x_1.Call == 0 then
    (ref32_Consents_Grant c_0 x_1.User x_1.Client x_1.Scopes x_1.Until x_1.Now).bind fun y12 =>
      some (y12.1, y12.2)
  else
    if x_1.Call == 1 then
      (ref32_Consents_Revoke c_0 x_1.User x_1.Client).bind fun y22 =>
        (law32_yes y22.1).bind fun y31 =>
          some (y31, y22.2)
    else
      if x_1.Call == 2 then
        (ref32_Consents_Drop c_0 x_1.User).bind fun y37 =>
          some (y37.1, y37.2)
      else
        (ref32_Consents_Covers c_0 x_1.User x_1.Client x_1.Scopes x_1.Now).bind fun y46 =>
          (law32_yes y46).bind fun y51 =>
            some (y51, c_0)
def ref32_Consents_Len (c_0 : ref32_Consents) : Option (Int) :=
  (ref32_Consents_Made c_0).bind fun y4 =>
    if !y4 then
      some (0)
    else
      some ((c_0.pairs.length : Int))
def ref32_Consents_Clients_B2 (r0 : ref32_Consents → Str → Int → List Str → Int → Option (List Str)) (oc_0 : ref32_Consents) (user_1 : Str) (now_2 : Int) (out_7 : List Str) (i_8 : Int) : Option (List Str) :=
  r0 oc_0 user_1 now_2 out_7 (IntKind.i64.wrap (i_8 + 1))
def ref32_Consents_Clients_L1 : Nat → ref32_Consents → Str → Int → List Str → Int → Option (List Str)
  | 0, _, _, _, _, _ => none
  | n + 1, oc_0, user_1, now_2, out_7, i_8 =>
    if decide (i_8 < (oc_0.pairs.length : Int)) then
      (idx oc_0.pairs i_8).bind fun y18 =>
        Option.bind (if y18.user == user_1 then
            (idx oc_0.pairs i_8).bind fun y37 =>
              (ref32_Consents_Scopes oc_0 user_1 y37.client now_2).bind fun y48 =>
                some (decide ((y48.length : Int) > 0))
          else
            some false
          ) fun z31 =>
          if z31 then
            (idx oc_0.pairs i_8).bind fun y56 =>
              (ref06_Insert out_7 y56.client).bind fun y67 =>
                ref32_Consents_Clients_B2 (ref32_Consents_Clients_L1 n) oc_0 user_1 now_2 y67 i_8
          else
            ref32_Consents_Clients_B2 (ref32_Consents_Clients_L1 n) oc_0 user_1 now_2 out_7 i_8
    else
      some (out_7)
def ref32_Consents_Clients (c_0 : ref32_Consents) (user_1 : Str) (now_2 : Int) : Option (List Str) :=
  (ref32_Consents_Made c_0).bind fun y6 =>
    if !y6 then
      some (([] : List Str))
    else
      ref32_Consents_Clients_L1 fuel c_0 user_1 now_2 ([] : List Str) 0
def law32_ConsentPlays_B2 (r0 : List law32_Op → Int → consent_Consents → ref32_Consents → Int → Option (Bool)) (l_0 : List law32_Op) (at_1 : Int) (oc_5 : consent_Consents) (od_6 : ref32_Consents) (i_7 : Int) (t_129 : Bool) : Option (Bool) :=
  if t_129 then
    some (false)
  else
    r0 l_0 at_1 oc_5 od_6 (IntKind.i64.wrap (i_7 + 1))
def law32_ConsentPlays_L1 : Nat → List law32_Op → Int → consent_Consents → ref32_Consents → Int → Option (Bool)
  | 0, _, _, _, _, _ => none
  | n + 1, l_0, at_1, oc_5, od_6, i_7 =>
    if decide (i_7 < (l_0.length : Int)) then
      (idx l_0 i_7).bind fun y501 =>
        (idx l_0 i_7).bind fun y510 =>
          (law32_do oc_5 y501).bind fun y520 =>
            (law32_done od_6 y510).bind fun y530 =>
              if y520.1 != y530.1 then
                law32_ConsentPlays_B2 (law32_ConsentPlays_L1 n) l_0 at_1 y520.2 y530.2 i_7 true
              else
                (consent_Consents_Len y520.2).bind fun y548 =>
                  (ref32_Consents_Len y530.2).bind fun y554 =>
                    if y548 != y554 then
                      law32_ConsentPlays_B2 (law32_ConsentPlays_L1 n) l_0 at_1 y520.2 y530.2 i_7 true
                    else
                      (idx l_0 i_7).bind fun y560 =>
                        (idx l_0 i_7).bind fun y569 =>
                          (idx l_0 i_7).bind fun y578 =>
                            (idx l_0 i_7).bind fun y587 =>
                              (consent_Consents_Scopes y520.2 y560.User y569.Client at_1).bind fun y597 =>
                                (ref32_Consents_Scopes y530.2 y578.User y587.Client at_1).bind fun y605 =>
                                  (ref03_Same y597 y605).bind fun y613 =>
                                    if !y613 then
                                      law32_ConsentPlays_B2 (law32_ConsentPlays_L1 n) l_0 at_1 y520.2 y530.2 i_7 true
                                    else
                                      (idx l_0 i_7).bind fun y619 =>
                                        (idx l_0 i_7).bind fun y628 =>
                                          (idx l_0 i_7).bind fun y637 =>
                                            (idx l_0 i_7).bind fun y646 =>
                                              (idx l_0 i_7).bind fun y655 =>
                                                (idx l_0 i_7).bind fun y664 =>
                                                  (consent_Consents_Scopes y520.2 y619.User y628.Client y637.Now).bind fun y674 =>
                                                    (ref32_Consents_Scopes y530.2 y646.User y655.Client y664.Now).bind fun y682 =>
                                                      (ref03_Same y674 y682).bind fun y690 =>
                                                        if !y690 then
                                                          law32_ConsentPlays_B2 (law32_ConsentPlays_L1 n) l_0 at_1 y520.2 y530.2 i_7 true
                                                        else
                                                          (idx l_0 i_7).bind fun y696 =>
                                                            (idx l_0 i_7).bind fun y705 =>
                                                              (consent_Consents_Clients y520.2 y696.User at_1).bind fun y715 =>
                                                                (ref32_Consents_Clients y530.2 y705.User at_1).bind fun y723 =>
                                                                  (ref03_Same y715 y723).bind fun y731 =>
                                                                    law32_ConsentPlays_B2 (law32_ConsentPlays_L1 n) l_0 at_1 y520.2 y530.2 i_7 (!y731)
    else
      (law32_awake).bind fun y736 =>
        some (y736)
def law32_ConsentPlays (l_0 : List law32_Op) (at_1 : Int) : Option (Bool) :=
  (law32_light l_0).bind fun y3 =>
    if !y3 then
      (law32_awake).bind fun y9 =>
        some (y9)
    else
      (consent_New).bind fun y14 =>
        (ref32_New).bind fun y24 =>
          law32_ConsentPlays_L1 fuel l_0 at_1 y14 y24 0
end Go.KW.S
