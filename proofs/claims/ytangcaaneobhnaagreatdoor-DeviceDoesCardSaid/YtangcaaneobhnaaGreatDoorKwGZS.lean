/- Own work: a part of the proofs of this seat. -/
import Derived.Test.YtangcaaneobhnaaGreatDoorKwMap3
import Derived.Test.YtangcaaneobhnaaGreatDoorKwSeg2
import Derived.Test.YtangcaaneobhnaaGreatDoorKwKeys
import Derived.Test.YtangcaaneobhnaaGreatDoorKwGlob
set_option linter.unusedVariables false
namespace Go.KW.S
open Go Go.KW
def tab_digest_digits : List Int := [48, 49, 50, 51, 52, 53, 54, 55, 56, 57, 97, 98, 99, 100, 101, 102]
structure law37_Op where
  Kind : Int
  User : Str
  ID : Str
  Secret : Str
  Until : Int
  Now : Int
  deriving DecidableEq
def law37_Op.c : Cdc law37_Op := Cdc.flat 6 (fun x => [.int .i64 x.Kind, str x.User, str x.ID, str x.Secret, .int .i64 x.Until, .int .i64 x.Now]) (fun _ => rfl) (fun _ u h => by simp at h; rcases h with rfl | rfl | rfl | rfl | rfl | rfl <;> rfl)
def law37_Op.eqb (x y : law37_Op) : Bool := (x.Kind == y.Kind) && (x.User == y.User) && (x.ID == y.ID) && (x.Secret == y.Secret) && (x.Until == y.Until) && (x.Now == y.Now)
structure device_key where
  user : Str
  id : Str
  deriving DecidableEq
def device_key.c : Cdc device_key := Cdc.flat 2 (fun x => [str x.user, str x.id]) (fun _ => rfl) (fun _ u h => by simp at h; rcases h with rfl | rfl <;> rfl)
def device_key.eqb (x y : device_key) : Bool := (x.user == y.user) && (x.id == y.id)
def device_key.ek (k : device_key) : Value := .agg #[str k.user, str k.id]
structure device_record where
  secret : Str
  challenge : Str
  until_ : Int
  deriving DecidableEq
def device_record.c : Cdc device_record := Cdc.flat 3 (fun x => [str x.secret, str x.challenge, .int .i64 x.until_]) (fun _ => rfl) (fun _ u h => by simp at h; rcases h with rfl | rfl | rfl <;> rfl)
def device_record.eqb (x y : device_record) : Bool := (x.secret == y.secret) && (x.challenge == y.challenge) && (x.until_ == y.until_)
structure device_Devices where
  records : GMap device_key device_record
  given : Int
  deriving DecidableEq
def device_Devices.O (τ : Nat → Nat) (ρ : Tags) (w : World) (g : Nat) (x : device_Devices) : Prop := ∃ v0, Blk ρ (τ 0) w g (.cells #[v0, .int .i64 x.given] 41 (0, 0)) ∧ MapT device_key.ek device_record.c true ρ (τ 1) w v0 x.records
structure ref37_Device where
  User : Str
  ID : Str
  Secret : Str
  Challenge : Str
  Until : Int
  deriving DecidableEq
def ref37_Device.c : Cdc ref37_Device := Cdc.flat 5 (fun x => [str x.User, str x.ID, str x.Secret, str x.Challenge, .int .i64 x.Until]) (fun _ => rfl) (fun _ u h => by simp at h; rcases h with rfl | rfl | rfl | rfl | rfl <;> rfl)
def ref37_Device.eqb (x y : ref37_Device) : Bool := (x.User == y.User) && (x.ID == y.ID) && (x.Secret == y.Secret) && (x.Challenge == y.Challenge) && (x.Until == y.Until)
structure ref37_Devices where
  L : List ref37_Device
  N : Int
  deriving DecidableEq
def ref37_Devices.c : Cdc ref37_Devices :=
  { size := 2, rd := fun A w cs x => ∃ v0, cs = [v0, .int .i64 x.N] ∧ SlR ref37_Device.c A w v0 x.L
    len := fun h => by obtain ⟨_, h, _⟩ := h; rw [h]; rfl
    one := fun h u hu => by
      obtain ⟨v0, h, h0⟩ := h
      subst h
      simp at hu
      rcases hu with rfl | rfl
      all_goals first | rfl | exact SlR.oneCell (by assumption)
    step := fun h s => by
      obtain ⟨v0, h, h0⟩ := h
      exact ⟨v0, h, h0.step s⟩ }
def ref37_Devices.O (τ : Nat → Nat) (ρ : Tags) (w : World) (g : Nat) (x : ref37_Devices) : Prop := ∃ v0, Blk ρ (τ 0) w g (.cells #[v0, .int .i64 x.N] 55 (0, 0)) ∧ OwnT ref37_Device.c 70 ρ (τ 1) w v0 x.L
structure law37_result where
  text : Str
  list : List Str
  n : Int
  is_ : Bool
  e : Int
  deriving DecidableEq
def law37_result.c : Cdc law37_result :=
  { size := 5, rd := fun A w cs x => ∃ v0, cs = [str x.text, v0, .int .i64 x.n, .bool x.is_, .int .i64 x.e] ∧ SlR strC A w v0 x.list
    len := fun h => by obtain ⟨_, h, _⟩ := h; rw [h]; rfl
    one := fun h u hu => by
      obtain ⟨v0, h, h0⟩ := h
      subst h
      simp at hu
      rcases hu with rfl | rfl | rfl | rfl | rfl
      all_goals first | rfl | exact SlR.oneCell (by assumption)
    step := fun h s => by
      obtain ⟨v0, h, h0⟩ := h
      exact ⟨v0, h, h0.step s⟩ }
def device_New : Option (device_Devices) :=
  some ((device_Devices.mk (some [] : GMap device_key device_record) 0))
def ref02_Great_L1 : Nat → List Str → Int → Int → Option (Bool)
  | 0, _, _, _ => none
  | n + 1, l_0, long_2, i_7 =>
    if decide (i_7 < (l_0.length : Int)) then
      (idx l_0 i_7).bind fun y5 =>
        if decide ((y5.length : Int) > long_2) then
          some (true)
        else
          (ref02_Great_L1 n) l_0 long_2 (IntKind.i64.wrap (i_7 + 1))
    else
      some (false)
def ref02_Great (l_0 : List Str) (most_1 : Int) (long_2 : Int) : Option (Bool) :=
  if decide ((l_0.length : Int) > most_1) then
    some (true)
  else
    ref02_Great_L1 fuel l_0 long_2 0
def law37_long_L1 : Nat → List law37_Op → Int → Int → Option (Bool)
  | 0, _, _, _ => none
  | n + 1, ops_0, t_11, t_12 =>
    if decide (t_12 < t_11) then
      (idx ops_0 t_12).bind fun y75 =>
        (idx ops_0 t_12).bind fun y82 =>
          (idx ops_0 t_12).bind fun y89 =>
            (ref02_Great ([y75.User, y82.ID, y89.Secret] : List Str) 3 300).bind fun y103 =>
              if y103 then
                some (true)
              else
                (law37_long_L1 n) ops_0 t_11 (IntKind.i64.wrap (t_12 + 1))
    else
      some (false)
def law37_long (ops_0 : List law37_Op) (most_1 : Int) : Option (Bool) :=
  if decide ((ops_0.length : Int) > most_1) then
    some (true)
  else
    law37_long_L1 fuel ops_0 (ops_0.length : Int) 0
def device_Devices_made (d_0 : device_Devices) : Option (Bool) :=
  some (!d_0.records.isNone)
def device_limited (n_0 : Int) : Option (Int) :=
  some (gmin (gmax n_0 0) 1099511627776)
def device_Devices_find (d_0 : device_Devices) (user_1 : Str) (id_2 : Str) (now_3 : Int) : Option (device_record × Int) :=
  (device_Devices_made d_0).bind fun y9 =>
    if !y9 then
      some ((device_record.mk ([]) ([]) 0), 1)
    else
      (some (mgetD d_0.records (device_key.mk user_1 id_2) (device_record.mk ([]) ([]) 0))).bind fun y21 =>
        if !(mhas d_0.records (device_key.mk user_1 id_2)) then
          some ((device_record.mk ([]) ([]) 0), 6)
        else
          (device_limited now_3).bind fun y35 =>
            if decide (y35 ≥ y21.until_) then
              some ((device_record.mk ([]) ([]) 0), 13)
            else
              some (y21, 0)
def codec_Int (n_0 : Int) : Option (Str) :=
  (lib_Itoa n_0).bind fun y1 =>
    some (y1)
def digest_Sum_L1 : Nat → Str → Int → Int → Int → Option (Int)
  | 0, _, _, _, _ => none
  | n + 1, s_0, h_3, t_6, t_7 =>
    if decide (t_7 < t_6) then
      chk (inb t_7 s_0.length) (
        (digest_Sum_L1 n) s_0 (IntKind.u64.wrap ((bXor .u64 h_3 (IntKind.u64.wrap (byteAt s_0 t_7))) * 1099511628211)) t_6 (IntKind.i64.wrap (t_7 + 1)))
    else
      some (bXor .u64 (IntKind.u64.wrap ((bXor .u64 (IntKind.u64.wrap ((bXor .u64 h_3 (bShr .u64 h_3 33)) * 18397679294719823053)) (bShr .u64 (IntKind.u64.wrap ((bXor .u64 h_3 (bShr .u64 h_3 33)) * 18397679294719823053)) 33)) * 14181476777654086739)) (bShr .u64 (IntKind.u64.wrap ((bXor .u64 (IntKind.u64.wrap ((bXor .u64 h_3 (bShr .u64 h_3 33)) * 18397679294719823053)) (bShr .u64 (IntKind.u64.wrap ((bXor .u64 h_3 (bShr .u64 h_3 33)) * 18397679294719823053)) 33)) * 14181476777654086739)) 33))
def digest_Sum (s_0 : Str) : Option (Int) :=
  digest_Sum_L1 fuel s_0 14695981039346656037 (s_0.length : Int) 0
def digest_Hex_L1 : Nat → Int → List Int → Int → Option (Str)
  | 0, _, _, _ => none
  | n + 1, n_0, b_3, t_5 =>
    if decide (t_5 < 16) then
      chk (decide (0 ≤ IntKind.i64.wrap (4 * t_5))) (
        chk (inb (bAnd .u64 (bShr .u64 n_0 (IntKind.i64.wrap (4 * t_5))) 15) 16) (
          (idx tab_digest_digits (bAnd .u64 (bShr .u64 n_0 (IntKind.i64.wrap (4 * t_5))) 15)).bind fun y11 =>
            chk (inb (IntKind.i64.wrap (15 - t_5)) 16) (
              chk (inb (IntKind.i64.wrap (15 - t_5)) b_3.length) (
                (digest_Hex_L1 n) n_0 (setAt b_3 (IntKind.i64.wrap (15 - t_5)) y11) (IntKind.i64.wrap (t_5 + 1))))))
    else
      chk (b_3.length == 16) (
        some (bytesStr b_3))
def digest_Hex (n_0 : Int) : Option (Str) :=
  digest_Hex_L1 fuel n_0 ([0, 0, 0, 0, 0, 0, 0, 0, 0, 0, 0, 0, 0, 0, 0, 0]) 0
def digest_Text (s_0 : Str) : Option (Str) :=
  (digest_Sum s_0).bind fun y1 =>
    (digest_Hex y1).bind fun y5 =>
      some (y5)
def proof_Unique (seed_0 : Str) (n_1 : Int) : Option (Str) :=
  (codec_Int n_1).bind fun y1 =>
    chk (fitS y1 ([58])) (
      chk (fitS (y1 ++ ([58])) seed_0) (
        (digest_Text ((y1 ++ ([58])) ++ seed_0)).bind fun y7 =>
          chk (fitS ([117]) y7) (
            some (([117]) ++ y7))))
def device_Devices_Challenge (d_0 : device_Devices) (user_1 : Str) (id_2 : Str) (now_3 : Int) : Option (Str × Int × device_Devices) :=
  (device_Devices_find d_0 user_1 id_2 now_3).bind fun y4 =>
    if y4.2 != 0 then
      some ([], y4.2, d_0)
    else
      chk (fitS user_1 ([124])) (
        chk (fitS (user_1 ++ ([124])) id_2) (
          (proof_Unique ((user_1 ++ ([124])) ++ id_2) (IntKind.i64.wrap (d_0.given + 1))).bind fun y21 =>
            chk d_0.records.isSome (
              some (y21, 0, (device_Devices.mk (mput d_0.records (device_key.mk user_1 id_2) (device_record.mk y4.1.secret y21 y4.1.until_)) (IntKind.i64.wrap (d_0.given + 1)))))))
def fold_upper (c_0 : Int) : Option (Bool) :=
  some ((decide (c_0 ≥ 65)) && (decide (c_0 ≤ 90)))
def fold_letter (c_0 : Int) : Option (Bool) :=
  (fold_upper c_0).bind fun y1 =>
    some (y1 || ((decide (c_0 ≥ 97)) && (decide (c_0 ≤ 122))))
def fold_digit (c_0 : Int) : Option (Bool) :=
  some ((decide (c_0 ≥ 48)) && (decide (c_0 ≤ 57)))
def fold_Word_1 (c_0 : Int) : Option (Bool) :=
  (fold_letter c_0).bind fun y1 =>
    Option.bind (if y1 then
        some true
      else
        (fold_digit c_0).bind fun y12 =>
          some y12
      ) fun z7 =>
      some ((((z7 || (c_0 == 45)) || (c_0 == 95)) || (c_0 == 46)) || (c_0 == 58))
def fold_made__Word_1_L1 : Nat → Str → Int → Int → Option (Bool)
  | 0, _, _, _ => none
  | n + 1, s_0, t_7, t_8 =>
    if decide (t_8 < t_7) then
      chk (inb t_8 s_0.length) (
        (fold_Word_1 (byteAt s_0 t_8)).bind fun y3 =>
          if !y3 then
            some (false)
          else
            (fold_made__Word_1_L1 n) s_0 t_7 (IntKind.i64.wrap (t_8 + 1)))
    else
      some ((!(s_0 == ([]))) && (decide ((s_0.length : Int) ≤ 64)))
def fold_made__Word_1 (s_0 : Str) : Option (Bool) :=
  fold_made__Word_1_L1 fuel s_0 (s_0.length : Int) 0
def fold_Word (s_0 : Str) : Option (Bool) :=
  (fold_made__Word_1 s_0).bind fun y1 =>
    some (y1)
def fold_Trim (s_0 : Str) : Option (Str) :=
  (lib_Trim s_0 ([32])).bind fun y1 =>
    some (y1)
def fold_Clean_L1 : Nat → Str → Str → Nat → Option (Bool)
  | 0, _, _, _ => none
  | n + 1, s_0, t_6s, t_6p =>
    if decide (t_6p < t_6s.length) then
      if (decide (((sdec t_6s t_6p).1) < 32)) || (decide (((sdec t_6s t_6p).1) > 126)) then
        some (false)
      else
        (fold_Clean_L1 n) s_0 t_6s (t_6p + (sdec t_6s t_6p).2)
    else
      Option.bind (if (!(s_0 == ([]))) && (decide ((s_0.length : Int) ≤ 256)) then
          (fold_Trim s_0).bind fun y33 =>
            some (y33 == s_0)
        else
          some false
        ) fun z28 =>
        some (z28)
def fold_Clean (s_0 : Str) : Option (Bool) :=
  fold_Clean_L1 fuel s_0 s_0 0
def device_Devices_Trust_B2 (ogd_0 : device_Devices) : Option (Int × device_Devices) :=
  some (0, ogd_0)
def device_Devices_Trust_B1 (od_0 : device_Devices) (k_13_0 : Str) (k_13_1 : Str) (r_14_0 : Str) (r_14_1 : Str) (r_14_2 : Int) (n_16_0 : Str) (n_16_1 : Str) (n_16_2 : Int) : Option (Int × device_Devices) :=
  if !(device_record.eqb (device_record.mk n_16_0 n_16_1 n_16_2) (device_record.mk r_14_0 r_14_1 r_14_2)) then
    chk od_0.records.isSome (
      device_Devices_Trust_B2 (device_Devices.mk (mput od_0.records (device_key.mk k_13_0 k_13_1) (device_record.mk n_16_0 n_16_1 n_16_2)) od_0.given))
  else
    device_Devices_Trust_B2 od_0
def device_Devices_Trust (d_0 : device_Devices) (user_1 : Str) (id_2 : Str) (secret_3 : Str) (until_4 : Int) (now_5 : Int) : Option (Int × device_Devices) :=
  (device_limited until_4).bind fun y4 =>
    (device_limited now_5).bind fun y9 =>
      (device_Devices_made d_0).bind fun y21 =>
        if !y21 then
          some (1, d_0)
        else
          (fold_Word user_1).bind fun y27 =>
            Option.bind (if !y27 then
                some true
              else
                (fold_Word id_2).bind fun y40 =>
                  some (!y40)
              ) fun z34 =>
              if z34 then
                some (5, d_0)
              else
                (fold_Clean secret_3).bind fun y46 =>
                  if !y46 then
                    some (4, d_0)
                  else
                    if decide (y4 ≤ y9) then
                      some (13, d_0)
                    else
                      (some (mgetD d_0.records (device_key.mk user_1 id_2) (device_record.mk ([]) ([]) 0))).bind fun y91 =>
                        if (!(mhas d_0.records (device_key.mk user_1 id_2))) && (decide ((mlen d_0.records) ≥ 256)) then
                          some (3, d_0)
                        else
                          if y91.secret == secret_3 then
                            device_Devices_Trust_B1 d_0 user_1 id_2 y91.secret y91.challenge y91.until_ secret_3 y91.challenge (gmax y91.until_ y4)
                          else
                            device_Devices_Trust_B1 d_0 user_1 id_2 y91.secret y91.challenge y91.until_ secret_3 ([]) (gmax y91.until_ y4)
def digest_Mac (key_0 : Str) (s_1 : Str) : Option (Str) :=
  (lib_Itoa (key_0.length : Int)).bind fun y1 =>
    chk (fitS y1 ([58])) (
      chk (fitS (y1 ++ ([58])) key_0) (
        chk (fitS ((y1 ++ ([58])) ++ key_0) s_1) (
          (digest_Text (((y1 ++ ([58])) ++ key_0) ++ s_1)).bind fun y8 =>
            chk (fitS ((y1 ++ ([58])) ++ key_0) y8) (
              (digest_Text (((y1 ++ ([58])) ++ key_0) ++ y8)).bind fun y13 =>
                some (y13)))))
def device_Answer (secret_0 : Str) (challenge_1 : Str) : Option (Str) :=
  (digest_Mac secret_0 challenge_1).bind fun y1 =>
    some (y1)
def device_Devices_Prove (d_0 : device_Devices) (user_1 : Str) (id_2 : Str) (answer_3 : Str) (now_4 : Int) : Option (Int × device_Devices) :=
  (device_Devices_find d_0 user_1 id_2 now_4).bind fun y4 =>
    if y4.2 != 0 then
      some (y4.2, d_0)
    else
      if y4.1.challenge == ([]) then
        some (12, d_0)
      else
        (device_Answer y4.1.secret y4.1.challenge).bind fun y18 =>
          chk d_0.records.isSome (
            if !(answer_3 == y18) then
              some (11, (device_Devices.mk (mput d_0.records (device_key.mk user_1 id_2) (device_record.mk y4.1.secret ([]) y4.1.until_)) d_0.given))
            else
              some (0, (device_Devices.mk (mput d_0.records (device_key.mk user_1 id_2) (device_record.mk y4.1.secret ([]) y4.1.until_)) d_0.given)))
def device_Devices_Trusted (d_0 : device_Devices) (user_1 : Str) (id_2 : Str) (now_3 : Int) : Option (Bool) :=
  (device_Devices_made d_0).bind fun y4 =>
    if !y4 then
      some (false)
    else
      (some (mgetD d_0.records (device_key.mk user_1 id_2) (device_record.mk ([]) ([]) 0))).bind fun y14 =>
        Option.bind (if mhas d_0.records (device_key.mk user_1 id_2) then
            (device_limited now_3).bind fun y32 =>
              some (decide (y32 < y14.until_))
          else
            some false
          ) fun z27 =>
          some (z27)
def device_Devices_List_B2 (r0 : device_Devices → Str → Int → List Str → List device_key → Option (List Str)) (od_0 : device_Devices) (user_1 : Str) (now_2 : Int) (out_7 : List Str) (t_16 : List device_key) : Option (List Str) :=
  r0 od_0 user_1 now_2 out_7 t_16
def device_Devices_List_L1 : Nat → device_Devices → Str → Int → List Str → List device_key → Option (List Str)
  | 0, _, _, _, _, _ => none
  | n + 1, od_0, user_1, now_2, out_7, t_16 =>
    pickAny (mleft od_0.records t_16) (
        (lib_Sort out_7).bind fun y65 =>
          some (y65))
      fun e22 =>
        Option.bind (if e22.1.user == user_1 then
            (device_Devices_Trusted od_0 user_1 e22.1.id now_2).bind fun y43 =>
              some y43
          else
            some false
          ) fun z37 =>
          if z37 then
            chk (fitL out_7.length ([e22.1.id] : List Str).length) (
              device_Devices_List_B2 (device_Devices_List_L1 n) od_0 user_1 now_2 (out_7 ++ ([e22.1.id] : List Str)) (e22.1 :: t_16))
          else
            device_Devices_List_B2 (device_Devices_List_L1 n) od_0 user_1 now_2 out_7 (e22.1 :: t_16)
def device_Devices_List (d_0 : device_Devices) (user_1 : Str) (now_2 : Int) : Option (List Str) :=
  (device_Devices_made d_0).bind fun y6 =>
    if !y6 then
      some (([] : List Str))
    else
      device_Devices_List_L1 fuel d_0 user_1 now_2 ([] : List Str) ([] : List device_key)
def ref02_Same_L1 : Nat → List Str → List Str → Int → Option (Bool)
  | 0, _, _, _ => none
  | n + 1, a_0, b_1, i_5 =>
    if decide (i_5 < (a_0.length : Int)) then
      (idx a_0 i_5).bind fun y9 =>
        (idx b_1 i_5).bind fun y15 =>
          if !(y9 == y15) then
            some (false)
          else
            (ref02_Same_L1 n) a_0 b_1 (IntKind.i64.wrap (i_5 + 1))
    else
      some (true)
def ref02_Same (a_0 : List Str) (b_1 : List Str) : Option (Bool) :=
  if (a_0.length : Int) != (b_1.length : Int) then
    some (false)
  else
    ref02_Same_L1 fuel a_0 b_1 0
def device_Devices_Drop_B2 (r0 : device_Devices → Str → Int → List device_key → Option (Int × device_Devices)) (od_0 : device_Devices) (user_1 : Str) (n_5 : Int) (t_19 : List device_key) : Option (Int × device_Devices) :=
  r0 od_0 user_1 n_5 t_19
def device_Devices_Drop_L1 : Nat → device_Devices → Str → Int → List device_key → Option (Int × device_Devices)
  | 0, _, _, _, _ => none
  | n + 1, od_0, user_1, n_5, t_19 =>
    pickAny (mleft od_0.records t_19) (
        some (IntKind.i64.wrap (n_5 - (mlen od_0.records)), od_0))
      fun e18 =>
        if e18.1.user == user_1 then
          device_Devices_Drop_B2 (device_Devices_Drop_L1 n) (device_Devices.mk (mdel od_0.records e18.1) od_0.given) user_1 n_5 (e18.1 :: t_19)
        else
          device_Devices_Drop_B2 (device_Devices_Drop_L1 n) od_0 user_1 n_5 (e18.1 :: t_19)
def device_Devices_Drop (d_0 : device_Devices) (user_1 : Str) : Option (Int × device_Devices) :=
  (device_Devices_made d_0).bind fun y4 =>
    if !y4 then
      some (0, d_0)
    else
      device_Devices_Drop_L1 fuel d_0 user_1 (mlen d_0.records) ([] : List device_key)
def device_Devices_Revoke (d_0 : device_Devices) (user_1 : Str) (id_2 : Str) : Option (Bool × device_Devices) :=
  (device_Devices_made d_0).bind fun y4 =>
    if !y4 then
      some (false, d_0)
    else
      (some (mgetD d_0.records (device_key.mk user_1 id_2) (device_record.mk ([]) ([]) 0))).bind fun y55 =>
        some (mhas d_0.records (device_key.mk user_1 id_2), (device_Devices.mk (mdel d_0.records (device_key.mk user_1 id_2)) d_0.given))
def law37_live : Option (Bool) :=
  (device_New).bind fun y1 =>
    (device_Devices_Challenge y1 ([117]) ([100]) 5).bind fun y11 =>
      (device_Devices_Trust y11.2.2 ([117]) ([100]) ([115]) 100 5).bind fun y20 =>
        (device_Devices_Trust y20.2 ([117]) ([100]) ([115]) 50 5).bind fun y29 =>
          (device_Devices_Challenge y29.2 ([117]) ([100]) 99).bind fun y38 =>
            (device_Answer ([115]) y38.1).bind fun y47 =>
              (device_Devices_Prove y38.2.2 ([117]) ([100]) y47 99).bind fun y52 =>
                (device_Answer ([115]) y38.1).bind fun y61 =>
                  (device_Devices_Prove y52.2 ([117]) ([100]) y61 99).bind fun y66 =>
                    (device_Devices_Trust y66.2 ([117]) ([100]) ([115]) 5 5).bind fun y75 =>
                      Option.bind (if (((y11.2.1 == 6) && (y20.1 == 0)) && (y29.1 == 0)) && (y38.2.1 == 0) then
                          (proof_Unique ([117, 124, 100]) 1).bind fun y116 =>
                            some (y38.1 == y116)
                        else
                          some false
                        ) fun z110 =>
                        Option.bind (if ((z110 && (y52.1 == 0)) && (y66.1 == 12)) && (y75.1 == 13) then
                            (device_Devices_Trusted y75.2 ([117]) ([100]) 99).bind fun y153 =>
                              some y153
                          else
                            some false
                          ) fun z147 =>
                          Option.bind (if z147 then
                              (device_Devices_Trusted y75.2 ([117]) ([100]) 100).bind fun y166 =>
                                some (!y166)
                            else
                              some false
                            ) fun z160 =>
                            Option.bind (if z160 then
                                (device_Devices_List y75.2 ([117]) 99).bind fun y179 =>
                                  (ref02_Same y179 ([[100]] : List Str)).bind fun y191 =>
                                    some y191
                              else
                                some false
                              ) fun z173 =>
                              Option.bind (if z173 then
                                  (device_Devices_Drop y75.2 ([117])).bind fun y204 =>
                                    some (y204.1 == 1, y204.2)
                                else
                                  some (false, y75.2)
                                ) fun z198 =>
                                Option.bind (if z198.1 then
                                    (device_Devices_Revoke z198.2 ([117]) ([100])).bind fun y224 =>
                                      some (!y224.1, y224.2)
                                  else
                                    some (false, z198.2)
                                  ) fun z218 =>
                                  Option.bind (if z218.1 then
                                      (device_Answer ([115]) ([99])).bind fun y244 =>
                                        (digest_Mac ([115]) ([99])).bind fun y249 =>
                                          some (y244 == y249)
                                    else
                                      some false
                                    ) fun z238 =>
                                    some (z238)
def ref37_New : Option (ref37_Devices) :=
  some ((ref37_Devices.mk ([] : List ref37_Device) 0))
def law37_do_B1 (t_6_0 : Str) (t_6_1 : List Str) (t_6_2 : Int) (t_6_3 : Bool) (t_6_4 : Int) (r_7_0 : Str) (r_7_1 : List Str) (r_7_2 : Int) (r_7_3 : Bool) (r_7_4 : Int) (ogd_0 : device_Devices) : Option (law37_result × device_Devices) :=
  some ((law37_result.mk r_7_0 r_7_1 r_7_2 r_7_3 r_7_4), ogd_0)
def law37_do (d_0 : device_Devices) (o_1 : law37_Op) (last_2 : Str) : Option (law37_result × device_Devices) :=
  if o_1.Kind == 1 then
    (device_Devices_Trust d_0 o_1.User o_1.ID o_1.Secret o_1.Until o_1.Now).bind fun y22 =>
      law37_do_B1 ([]) ([] : List Str) 0 false 0 ([]) ([] : List Str) 0 false y22.1 y22.2
  else
    if o_1.Kind == 2 then
      (device_Devices_Challenge d_0 o_1.User o_1.ID o_1.Now).bind fun y41 =>
        law37_do_B1 ([]) ([] : List Str) 0 false 0 y41.1 ([] : List Str) 0 false y41.2.1 y41.2.2
    else
      if o_1.Kind == 3 then
        (device_Devices_Prove d_0 o_1.User o_1.ID o_1.Secret o_1.Now).bind fun y55 =>
          law37_do_B1 ([]) ([] : List Str) 0 false 0 ([]) ([] : List Str) 0 false y55.1 y55.2
      else
        if o_1.Kind == 4 then
          (device_Answer o_1.Secret last_2).bind fun y110 =>
            (device_Devices_Prove d_0 o_1.User o_1.ID y110 o_1.Now).bind fun y116 =>
              law37_do_B1 ([]) ([] : List Str) 0 false 0 ([]) ([] : List Str) 0 false y116.1 y116.2
        else
          if o_1.Kind == 5 then
            (device_Devices_Revoke d_0 o_1.User o_1.ID).bind fun y129 =>
              law37_do_B1 ([]) ([] : List Str) 0 false 0 ([]) ([] : List Str) 0 y129.1 0 y129.2
          else
            if o_1.Kind == 6 then
              (device_Devices_List d_0 o_1.User o_1.Now).bind fun y141 =>
                law37_do_B1 ([]) ([] : List Str) 0 false 0 ([]) y141 0 false 0 d_0
            else
              if o_1.Kind == 7 then
                (device_Devices_Drop d_0 o_1.User).bind fun y151 =>
                  law37_do_B1 ([]) ([] : List Str) 0 false 0 ([]) ([] : List Str) y151.1 false 0 y151.2
              else
                if o_1.Kind == 8 then
                  (device_Devices_Trusted d_0 o_1.User o_1.ID o_1.Now).bind fun y163 =>
                    law37_do_B1 ([]) ([] : List Str) 0 false 0 ([]) ([] : List Str) 0 y163 0 d_0
                else
                  law37_do_B1 ([]) ([] : List Str) 0 false 0 ([]) ([] : List Str) 0 false 0 d_0
def ref01_letter (c_0 : Int) : Option (Bool) :=
  some (((decide (c_0 ≥ 97)) && (decide (c_0 ≤ 122))) || ((decide (c_0 ≥ 65)) && (decide (c_0 ≤ 90))))
def ref01_digit (c_0 : Int) : Option (Bool) :=
  some ((decide (c_0 ≥ 48)) && (decide (c_0 ≤ 57)))
def ref01_Word_L1 : Nat → Str → Int → Option (Bool)
  | 0, _, _ => none
  | n + 1, s_0, i_3 =>
    if decide (i_3 < (s_0.length : Int)) then
      chk (inb i_3 s_0.length) (
        (ref01_letter (byteAt s_0 i_3)).bind fun y3 =>
          Option.bind (if !y3 then
              chk (inb i_3 s_0.length) (
                (ref01_digit (byteAt s_0 i_3)).bind fun y15 =>
                  some (!y15))
            else
              some false
            ) fun z9 =>
            Option.bind (if z9 then
                chk (inb i_3 s_0.length) (
                  some ((byteAt s_0 i_3) != 45))
              else
                some false
              ) fun z21 =>
              Option.bind (if z21 then
                  chk (inb i_3 s_0.length) (
                    some ((byteAt s_0 i_3) != 95))
                else
                  some false
                ) fun z29 =>
                Option.bind (if z29 then
                    chk (inb i_3 s_0.length) (
                      some ((byteAt s_0 i_3) != 46))
                  else
                    some false
                  ) fun z37 =>
                  Option.bind (if z37 then
                      chk (inb i_3 s_0.length) (
                        some ((byteAt s_0 i_3) != 58))
                    else
                      some false
                    ) fun z45 =>
                    if z45 then
                      some (false)
                    else
                      (ref01_Word_L1 n) s_0 (IntKind.i64.wrap (i_3 + 1)))
    else
      some ((decide ((s_0.length : Int) ≥ 1)) && (decide ((s_0.length : Int) ≤ 64)))
def ref01_Word (s_0 : Str) : Option (Bool) :=
  ref01_Word_L1 fuel s_0 0
def ref01_Clean_L1 : Nat → Str → Int → Option (Bool)
  | 0, _, _ => none
  | n + 1, s_0, i_3 =>
    if decide (i_3 < (s_0.length : Int)) then
      chk (inb i_3 s_0.length) (
        Option.bind (if decide ((byteAt s_0 i_3) < 32) then
            some true
          else
            chk (inb i_3 s_0.length) (
              some (decide ((byteAt s_0 i_3) > 126)))
          ) fun z29 =>
          if z29 then
            some (false)
          else
            (ref01_Clean_L1 n) s_0 (IntKind.i64.wrap (i_3 + 1)))
    else
      some (true)
def ref01_Clean (s_0 : Str) : Option (Bool) :=
  Option.bind (if (decide ((s_0.length : Int) < 1)) || (decide ((s_0.length : Int) > 256)) then
      some true
    else
      chk (inb 0 s_0.length) (
        some ((byteAt s_0 0) == 32))
    ) fun z10 =>
    Option.bind (if z10 then
        some true
      else
        chk (inb (IntKind.i64.wrap ((s_0.length : Int) - 1)) s_0.length) (
          some ((byteAt s_0 (IntKind.i64.wrap ((s_0.length : Int) - 1))) == 32))
      ) fun z18 =>
      if z18 then
        some (false)
      else
        ref01_Clean_L1 fuel s_0 0
def ref15_Instant (n_0 : Int) : Option (Int) :=
  if decide (n_0 < 0) then
    some (0)
  else
    if decide (n_0 > 1099511627776) then
      some (1099511627776)
    else
      some (n_0)
def ref37_Devices_find_L1 : Nat → ref37_Devices → Str → Str → Int → Option (Int)
  | 0, _, _, _, _ => none
  | n + 1, od_0, user_1, id_2, i_7 =>
    if decide (i_7 < (od_0.L.length : Int)) then
      (idx od_0.L i_7).bind fun y8 =>
        Option.bind (if y8.User == user_1 then
            (idx od_0.L i_7).bind fun y25 =>
              some (y25.ID == id_2)
          else
            some false
          ) fun z19 =>
          if z19 then
            some (i_7)
          else
            (ref37_Devices_find_L1 n) od_0 user_1 id_2 (IntKind.i64.wrap (i_7 + 1))
    else
      some ((-1))
def ref37_Devices_find (d_0 : ref37_Devices) (user_1 : Str) (id_2 : Str) : Option (Int) :=
  ref37_Devices_find_L1 fuel d_0 user_1 id_2 0
def ref37_Devices_Trust_B2 (ogd_0 : ref37_Devices) : Option (Int × ref37_Devices) :=
  some (0, ogd_0)
def ref37_Devices_Trust_B1 (od_0 : ref37_Devices) (secret_3 : Str) (k_14 : Int) : Option (Int × ref37_Devices) :=
  (idx od_0.L k_14).bind fun y84 =>
    if !(y84.Secret == secret_3) then
      (idx od_0.L k_14).bind fun y94 =>
        (idx (setAt od_0.L k_14 (ref37_Device.mk y94.User y94.ID secret_3 y94.Challenge y94.Until)) k_14).bind fun y105 =>
          ref37_Devices_Trust_B2 (ref37_Devices.mk (setAt (setAt od_0.L k_14 (ref37_Device.mk y94.User y94.ID secret_3 y94.Challenge y94.Until)) k_14 (ref37_Device.mk y105.User y105.ID y105.Secret ([]) y105.Until)) od_0.N)
    else
      ref37_Devices_Trust_B2 od_0
def ref37_Devices_Trust (d_0 : ref37_Devices) (user_1 : Str) (id_2 : Str) (secret_3 : Str) (until_4 : Int) (now_5 : Int) : Option (Int × ref37_Devices) :=
  (ref01_Word user_1).bind fun y4 =>
    Option.bind (if !y4 then
        some true
      else
        (ref01_Word id_2).bind fun y17 =>
          some (!y17)
      ) fun z11 =>
      if z11 then
        some (5, d_0)
      else
        (ref01_Clean secret_3).bind fun y23 =>
          if !y23 then
            some (4, d_0)
          else
            (ref15_Instant until_4).bind fun y29 =>
              (ref15_Instant now_5).bind fun y34 =>
                if decide (y29 ≤ y34) then
                  some (13, d_0)
                else
                  (ref37_Devices_find d_0 user_1 id_2).bind fun y40 =>
                    if decide (y40 < 0) then
                      if decide ((d_0.L.length : Int) ≥ 256) then
                        some (3, d_0)
                      else
                        chk (fitL d_0.L.length ([(ref37_Device.mk user_1 id_2 secret_3 ([]) y29)] : List ref37_Device).length) (
                          some (0, (ref37_Devices.mk (d_0.L ++ ([(ref37_Device.mk user_1 id_2 secret_3 ([]) y29)] : List ref37_Device)) d_0.N)))
                    else
                      (idx d_0.L y40).bind fun y60 =>
                        if decide (y60.Until < y29) then
                          (idx d_0.L y40).bind fun y70 =>
                            ref37_Devices_Trust_B1 (ref37_Devices.mk (setAt d_0.L y40 (ref37_Device.mk y70.User y70.ID y70.Secret y70.Challenge y29)) d_0.N) secret_3 y40
                        else
                          ref37_Devices_Trust_B1 d_0 secret_3 y40
def ref37_Devices_Trusted (d_0 : ref37_Devices) (user_1 : Str) (id_2 : Str) (now_3 : Int) : Option (Bool) :=
  (ref37_Devices_find d_0 user_1 id_2).bind fun y4 =>
    Option.bind (if decide (y4 ≥ 0) then
        (ref15_Instant now_3).bind fun y18 =>
          (idx d_0.L y4).bind fun y23 =>
            some (decide (y18 < y23.Until))
      else
        some false
      ) fun z13 =>
      some (z13)
def ref37_Devices_ready (d_0 : ref37_Devices) (user_1 : Str) (id_2 : Str) (now_3 : Int) : Option (Int × Int) :=
  (ref37_Devices_find d_0 user_1 id_2).bind fun y4 =>
    if decide (y4 < 0) then
      some (0, 6)
    else
      (ref37_Devices_Trusted d_0 user_1 id_2 now_3).bind fun y10 =>
        if !y10 then
          some (0, 13)
        else
          some (y4, 0)
def ref02_Int_B2 (r0 : Int → Str → Int → Option (Str)) (n_0 : Int) (out_3 : Str) (m_4 : Int) (d_5 : Int) : Option (Str) :=
  chk (fitS (bytesStr ([IntKind.u8.wrap (IntKind.i64.wrap (48 + d_5))] : List Int)) out_3) (
    r0 n_0 ((bytesStr ([IntKind.u8.wrap (IntKind.i64.wrap (48 + d_5))] : List Int)) ++ out_3) (IntKind.i64.wrap (m_4.tdiv 10)))
def ref02_Int_L1 : Nat → Int → Str → Int → Option (Str)
  | 0, _, _, _ => none
  | n + 1, n_0, out_3, m_4 =>
    if m_4 != 0 then
      if decide ((Int.tmod m_4 10) < 0) then
        ref02_Int_B2 (ref02_Int_L1 n) n_0 out_3 m_4 (IntKind.i64.wrap (0 - (Int.tmod m_4 10)))
      else
        ref02_Int_B2 (ref02_Int_L1 n) n_0 out_3 m_4 (Int.tmod m_4 10)
    else
      if decide (n_0 < 0) then
        chk (fitS ([45]) out_3) (
          some (([45]) ++ out_3))
      else
        some (out_3)
def ref02_Int (n_0 : Int) : Option (Str) :=
  if n_0 == 0 then
    some ([48])
  else
    ref02_Int_L1 fuel n_0 ([]) n_0
def ref03_Sum_L1 : Nat → Str → Int → Int → Option (Int)
  | 0, _, _, _ => none
  | n + 1, s_0, h_3, i_4 =>
    if decide (i_4 < (s_0.length : Int)) then
      chk (inb i_4 s_0.length) (
        (ref03_Sum_L1 n) s_0 (IntKind.u64.wrap ((bXor .u64 h_3 (IntKind.u64.wrap (byteAt s_0 i_4))) * 1099511628211)) (IntKind.i64.wrap (i_4 + 1)))
    else
      some (bXor .u64 (IntKind.u64.wrap ((bXor .u64 (IntKind.u64.wrap ((bXor .u64 h_3 (bShr .u64 h_3 33)) * 18397679294719823053)) (bShr .u64 (IntKind.u64.wrap ((bXor .u64 h_3 (bShr .u64 h_3 33)) * 18397679294719823053)) 33)) * 14181476777654086739)) (bShr .u64 (IntKind.u64.wrap ((bXor .u64 (IntKind.u64.wrap ((bXor .u64 h_3 (bShr .u64 h_3 33)) * 18397679294719823053)) (bShr .u64 (IntKind.u64.wrap ((bXor .u64 h_3 (bShr .u64 h_3 33)) * 18397679294719823053)) 33)) * 14181476777654086739)) 33))
def ref03_Sum (s_0 : Str) : Option (Int) :=
  ref03_Sum_L1 fuel s_0 14695981039346656037 0
def ref03_Hex_L1 : Nat → Int → Str → Int → Option (Str)
  | 0, _, _, _ => none
  | n + 1, n_0, s_3, i_4 =>
    if decide (i_4 < 16) then
      chk (inc (Int.tmod n_0 16) (IntKind.u64.wrap ((Int.tmod n_0 16) + 1)) ([48, 49, 50, 51, 52, 53, 54, 55, 56, 57, 97, 98, 99, 100, 101, 102]).length) (
        chk (fitS (cut ([48, 49, 50, 51, 52, 53, 54, 55, 56, 57, 97, 98, 99, 100, 101, 102]) (Int.tmod n_0 16) (IntKind.u64.wrap ((Int.tmod n_0 16) + 1))) s_3) (
          (ref03_Hex_L1 n) (IntKind.u64.wrap (n_0.tdiv 16)) ((cut ([48, 49, 50, 51, 52, 53, 54, 55, 56, 57, 97, 98, 99, 100, 101, 102]) (Int.tmod n_0 16) (IntKind.u64.wrap ((Int.tmod n_0 16) + 1))) ++ s_3) (IntKind.i64.wrap (i_4 + 1))))
    else
      some (s_3)
def ref03_Hex (n_0 : Int) : Option (Str) :=
  ref03_Hex_L1 fuel n_0 ([]) 0
def ref03_Text (s_0 : Str) : Option (Str) :=
  (ref03_Sum s_0).bind fun y1 =>
    (ref03_Hex y1).bind fun y5 =>
      some (y5)
def ref28_Unique (seed_0 : Str) (n_1 : Int) : Option (Str) :=
  (ref02_Int n_1).bind fun y1 =>
    chk (fitS y1 ([58])) (
      chk (fitS (y1 ++ ([58])) seed_0) (
        (ref03_Text ((y1 ++ ([58])) ++ seed_0)).bind fun y7 =>
          chk (fitS ([117]) y7) (
            some (([117]) ++ y7))))
def ref37_Devices_Challenge (d_0 : ref37_Devices) (user_1 : Str) (id_2 : Str) (now_3 : Int) : Option (Str × Int × ref37_Devices) :=
  (ref37_Devices_ready d_0 user_1 id_2 now_3).bind fun y4 =>
    if y4.2 != 0 then
      some ([], y4.2, d_0)
    else
      chk (fitS user_1 ([124])) (
        chk (fitS (user_1 ++ ([124])) id_2) (
          (ref28_Unique ((user_1 ++ ([124])) ++ id_2) (IntKind.i64.wrap (d_0.N + 1))).bind fun y59 =>
            (idx d_0.L y4.1).bind fun y64 =>
              (idx (setAt d_0.L y4.1 (ref37_Device.mk y64.User y64.ID y64.Secret y59 y64.Until)) y4.1).bind fun y76 =>
                some (y76.Challenge, 0, (ref37_Devices.mk (setAt d_0.L y4.1 (ref37_Device.mk y64.User y64.ID y64.Secret y59 y64.Until)) (IntKind.i64.wrap (d_0.N + 1))))))
def ref03_decimal : Nat → Int → Option (Str)
  | 0, _ => none
  | n + 1, n_0 =>
    if decide (n_0 < 10) then
      chk (inc n_0 (IntKind.i64.wrap (n_0 + 1)) ([48, 49, 50, 51, 52, 53, 54, 55, 56, 57]).length) (
        some (cut ([48, 49, 50, 51, 52, 53, 54, 55, 56, 57]) n_0 (IntKind.i64.wrap (n_0 + 1))))
    else
      (ref03_decimal n (IntKind.i64.wrap (n_0.tdiv 10))).bind fun y3 =>
        (ref03_decimal n (Int.tmod n_0 10)).bind fun y7 =>
          chk (fitS y3 y7) (
            some (y3 ++ y7))
def ref03_Mac (key_0 : Str) (s_1 : Str) : Option (Str) :=
  (ref03_decimal fuel (key_0.length : Int)).bind fun y1 =>
    chk (fitS y1 ([58])) (
      chk (fitS (y1 ++ ([58])) key_0) (
        chk (fitS ((y1 ++ ([58])) ++ key_0) s_1) (
          (ref03_Text (((y1 ++ ([58])) ++ key_0) ++ s_1)).bind fun y8 =>
            chk (fitS ((y1 ++ ([58])) ++ key_0) y8) (
              (ref03_Text (((y1 ++ ([58])) ++ key_0) ++ y8)).bind fun y13 =>
                some (y13)))))
def ref37_Answer (secret_0 : Str) (challenge_1 : Str) : Option (Str) :=
  (ref03_Mac secret_0 challenge_1).bind fun y1 =>
    some (y1)
def ref37_Devices_Prove (d_0 : ref37_Devices) (user_1 : Str) (id_2 : Str) (answer_3 : Str) (now_4 : Int) : Option (Int × ref37_Devices) :=
  (ref37_Devices_ready d_0 user_1 id_2 now_4).bind fun y4 =>
    if y4.2 != 0 then
      some (y4.2, d_0)
    else
      (idx d_0.L y4.1).bind fun y10 =>
        if y10.Challenge == ([]) then
          some (12, d_0)
        else
          (idx d_0.L y4.1).bind fun y22 =>
            (idx d_0.L y4.1).bind fun y31 =>
              (ref37_Answer y22.Secret y31.Challenge).bind fun y40 =>
                (idx d_0.L y4.1).bind fun y46 =>
                  if !(y40 == answer_3) then
                    some (11, (ref37_Devices.mk (setAt d_0.L y4.1 (ref37_Device.mk y46.User y46.ID y46.Secret ([]) y46.Until)) d_0.N))
                  else
                    some (0, (ref37_Devices.mk (setAt d_0.L y4.1 (ref37_Device.mk y46.User y46.ID y46.Secret ([]) y46.Until)) d_0.N))
def ref37_Devices_Revoke_B1 (gd_0_0 : List ref37_Device) (gd_0_1 : Int) : Option (Bool × ref37_Devices) :=
  some (true, (ref37_Devices.mk gd_0_0 gd_0_1))
def ref37_Devices_Revoke (d_0 : ref37_Devices) (user_1 : Str) (id_2 : Str) : Option (Bool × ref37_Devices) :=
  (ref37_Devices_find d_0 user_1 id_2).bind fun y4 =>
    if decide (y4 < 0) then
      some (false, d_0)
    else
      chk (inc 0 y4 d_0.L.length) (
        chk (fitL ([] : List ref37_Device).length (cut d_0.L 0 y4).length) (
          chk (inc (IntKind.i64.wrap (y4 + 1)) d_0.L.length d_0.L.length) (
            chk (fitL (([] : List ref37_Device) ++ (cut d_0.L 0 y4)).length (cut d_0.L (IntKind.i64.wrap (y4 + 1)) d_0.L.length).length) (
              ref37_Devices_Revoke_B1 ((([] : List ref37_Device) ++ (cut d_0.L 0 y4)) ++ (cut d_0.L (IntKind.i64.wrap (y4 + 1)) d_0.L.length)) d_0.N))))
def ref09_Ascending_B3 (r0 : List Str → List Str → Int → Option (List Str)) (r1 : List Str → List Str → Int → Int → Option (List Str)) (l_0 : List Str) (out_3 : List Str) (i_4 : Int) : Option (List Str) :=
  r0 l_0 out_3 (IntKind.i64.wrap (i_4 + 1))
def ref09_Ascending_L2 (r0 : List Str → List Str → Int → Option (List Str)) : Nat → List Str → List Str → Int → Int → Option (List Str)
  | 0, _, _, _, _ => none
  | n + 1, l_0, out_3, i_4, k_5 =>
    Option.bind (if decide (k_5 < (out_3.length : Int)) then
        (idx out_3 k_5).bind fun y19 =>
          (idx l_0 i_4).bind fun y28 =>
            some (sLt y19 y28)
      else
        some false
      ) fun z14 =>
      if z14 then
        (ref09_Ascending_L2 r0 n) l_0 out_3 i_4 (IntKind.i64.wrap (k_5 + 1))
      else
        Option.bind (if decide (k_5 < (out_3.length : Int)) then
            (idx out_3 k_5).bind fun y46 =>
              (idx l_0 i_4).bind fun y55 =>
                some (y46 == y55)
          else
            some false
          ) fun z41 =>
          if z41 then
            ref09_Ascending_B3 r0 (ref09_Ascending_L2 r0 n) l_0 out_3 i_4
          else
            chk (inc 0 k_5 out_3.length) (
              chk (fitL ([] : List Str).length (cut out_3 0 k_5).length) (
                (idx l_0 i_4).bind fun y81 =>
                  chk (fitL (([] : List Str) ++ (cut out_3 0 k_5)).length ([y81] : List Str).length) (
                    chk (inc k_5 out_3.length out_3.length) (
                      chk (fitL ((([] : List Str) ++ (cut out_3 0 k_5)) ++ ([y81] : List Str)).length (cut out_3 k_5 out_3.length).length) (
                        ref09_Ascending_B3 r0 (ref09_Ascending_L2 r0 n) l_0 (((([] : List Str) ++ (cut out_3 0 k_5)) ++ ([y81] : List Str)) ++ (cut out_3 k_5 out_3.length)) i_4)))))
def ref09_Ascending_L1 : Nat → List Str → List Str → Int → Option (List Str)
  | 0, _, _, _ => none
  | n + 1, l_0, out_3, i_4 =>
    if decide (i_4 < (l_0.length : Int)) then
      ref09_Ascending_L2 (ref09_Ascending_L1 n) fuel l_0 out_3 i_4 0
    else
      some (out_3)
def ref09_Ascending (l_0 : List Str) : Option (List Str) :=
  ref09_Ascending_L1 fuel l_0 ([] : List Str) 0
def ref37_Devices_List_B2 (r0 : ref37_Devices → Str → Int → List Str → Int → Option (List Str)) (od_0 : ref37_Devices) (user_1 : Str) (now_2 : Int) (out_7 : List Str) (i_8 : Int) : Option (List Str) :=
  r0 od_0 user_1 now_2 out_7 (IntKind.i64.wrap (i_8 + 1))
def ref37_Devices_List_L1 : Nat → ref37_Devices → Str → Int → List Str → Int → Option (List Str)
  | 0, _, _, _, _, _ => none
  | n + 1, od_0, user_1, now_2, out_7, i_8 =>
    if decide (i_8 < (od_0.L.length : Int)) then
      (idx od_0.L i_8).bind fun y14 =>
        Option.bind (if y14.User == user_1 then
            (ref15_Instant now_2).bind fun y30 =>
              (idx od_0.L i_8).bind fun y35 =>
                some (decide (y30 < y35.Until))
          else
            some false
          ) fun z25 =>
          if z25 then
            (idx od_0.L i_8).bind fun y46 =>
              chk (fitL out_7.length ([y46.ID] : List Str).length) (
                ref37_Devices_List_B2 (ref37_Devices_List_L1 n) od_0 user_1 now_2 (out_7 ++ ([y46.ID] : List Str)) i_8)
          else
            ref37_Devices_List_B2 (ref37_Devices_List_L1 n) od_0 user_1 now_2 out_7 i_8
    else
      (ref09_Ascending out_7).bind fun y73 =>
        some (y73)
def ref37_Devices_List (d_0 : ref37_Devices) (user_1 : Str) (now_2 : Int) : Option (List Str) :=
  ref37_Devices_List_L1 fuel d_0 user_1 now_2 ([] : List Str) 0
def ref37_Devices_Drop_B2 (r0 : ref37_Devices → Str → List ref37_Device → Int → Option (Int × ref37_Devices)) (od_0 : ref37_Devices) (user_1 : Str) (out_5 : List ref37_Device) (i_6 : Int) : Option (Int × ref37_Devices) :=
  r0 od_0 user_1 out_5 (IntKind.i64.wrap (i_6 + 1))
def ref37_Devices_Drop_L1 : Nat → ref37_Devices → Str → List ref37_Device → Int → Option (Int × ref37_Devices)
  | 0, _, _, _, _ => none
  | n + 1, od_0, user_1, out_5, i_6 =>
    if decide (i_6 < (od_0.L.length : Int)) then
      (idx od_0.L i_6).bind fun y8 =>
        if !(y8.User == user_1) then
          (idx od_0.L i_6).bind fun y18 =>
            chk (fitL out_5.length ([y18] : List ref37_Device).length) (
              ref37_Devices_Drop_B2 (ref37_Devices_Drop_L1 n) od_0 user_1 (out_5 ++ ([y18] : List ref37_Device)) i_6)
        else
          ref37_Devices_Drop_B2 (ref37_Devices_Drop_L1 n) od_0 user_1 out_5 i_6
    else
      some (IntKind.i64.wrap ((od_0.L.length : Int) - (out_5.length : Int)), (ref37_Devices.mk out_5 od_0.N))
def ref37_Devices_Drop (d_0 : ref37_Devices) (user_1 : Str) : Option (Int × ref37_Devices) :=
  ref37_Devices_Drop_L1 fuel d_0 user_1 ([] : List ref37_Device) 0
def law37_model_B1 (t_6_0 : Str) (t_6_1 : List Str) (t_6_2 : Int) (t_6_3 : Bool) (t_6_4 : Int) (r_7_0 : Str) (r_7_1 : List Str) (r_7_2 : Int) (r_7_3 : Bool) (r_7_4 : Int) (ogd_0 : ref37_Devices) : Option (law37_result × ref37_Devices) :=
  some ((law37_result.mk r_7_0 r_7_1 r_7_2 r_7_3 r_7_4), ogd_0)
def law37_model (d_0 : ref37_Devices) (o_1 : law37_Op) (last_2 : Str) : Option (law37_result × ref37_Devices) :=
  if o_1.Kind == 1 then
    (ref37_Devices_Trust d_0 o_1.User o_1.ID o_1.Secret o_1.Until o_1.Now).bind fun y22 =>
      law37_model_B1 ([]) ([] : List Str) 0 false 0 ([]) ([] : List Str) 0 false y22.1 y22.2
  else
    if o_1.Kind == 2 then
      (ref37_Devices_Challenge d_0 o_1.User o_1.ID o_1.Now).bind fun y41 =>
        law37_model_B1 ([]) ([] : List Str) 0 false 0 y41.1 ([] : List Str) 0 false y41.2.1 y41.2.2
    else
      if o_1.Kind == 3 then
        (ref37_Devices_Prove d_0 o_1.User o_1.ID o_1.Secret o_1.Now).bind fun y55 =>
          law37_model_B1 ([]) ([] : List Str) 0 false 0 ([]) ([] : List Str) 0 false y55.1 y55.2
      else
        if o_1.Kind == 4 then
          (ref37_Answer o_1.Secret last_2).bind fun y110 =>
            (ref37_Devices_Prove d_0 o_1.User o_1.ID y110 o_1.Now).bind fun y116 =>
              law37_model_B1 ([]) ([] : List Str) 0 false 0 ([]) ([] : List Str) 0 false y116.1 y116.2
        else
          if o_1.Kind == 5 then
            (ref37_Devices_Revoke d_0 o_1.User o_1.ID).bind fun y129 =>
              law37_model_B1 ([]) ([] : List Str) 0 false 0 ([]) ([] : List Str) 0 y129.1 0 y129.2
          else
            if o_1.Kind == 6 then
              (ref37_Devices_List d_0 o_1.User o_1.Now).bind fun y141 =>
                law37_model_B1 ([]) ([] : List Str) 0 false 0 ([]) y141 0 false 0 d_0
            else
              if o_1.Kind == 7 then
                (ref37_Devices_Drop d_0 o_1.User).bind fun y151 =>
                  law37_model_B1 ([]) ([] : List Str) 0 false 0 ([]) ([] : List Str) y151.1 false 0 y151.2
              else
                if o_1.Kind == 8 then
                  (ref37_Devices_Trusted d_0 o_1.User o_1.ID o_1.Now).bind fun y163 =>
                    law37_model_B1 ([]) ([] : List Str) 0 false 0 ([]) ([] : List Str) 0 y163 0 d_0
                else
                  law37_model_B1 ([]) ([] : List Str) 0 false 0 ([]) ([] : List Str) 0 false 0 d_0
def law37_DeviceDoes_B3 (r0 : List law37_Op → device_Devices → ref37_Devices → Str → Int → Int → Option (Bool)) (ops_0 : List law37_Op) (od_3 : device_Devices) (om_4 : ref37_Devices) (last_5 : Str) (t_19 : Int) (t_20 : Int) : Option (Bool) :=
  r0 ops_0 od_3 om_4 last_5 t_19 (IntKind.i64.wrap (t_20 + 1))
def law37_DeviceDoes_B2 (r0 : List law37_Op → device_Devices → ref37_Devices → Str → Int → Int → Option (Bool)) (ops_0 : List law37_Op) (od_3 : device_Devices) (om_4 : ref37_Devices) (last_5 : Str) (x_7_0 : Str) (x_7_1 : List Str) (x_7_2 : Int) (x_7_3 : Bool) (x_7_4 : Int) (y_8_0 : Str) (y_8_1 : List Str) (y_8_2 : Int) (y_8_3 : Bool) (y_8_4 : Int) (t_19 : Int) (t_20 : Int) : Option (Bool) :=
  Option.bind (if !(x_7_0 == y_8_0) then
      some true
    else
      (ref02_Same x_7_1 y_8_1).bind fun y937 =>
        some (!y937)
    ) fun z931 =>
    if ((z931 || (x_7_2 != y_8_2)) || (x_7_3 != y_8_3)) || (x_7_4 != y_8_4) then
      some (false)
    else
      if !(x_7_0 == ([])) then
        law37_DeviceDoes_B3 r0 ops_0 od_3 om_4 x_7_0 t_19 t_20
      else
        law37_DeviceDoes_B3 r0 ops_0 od_3 om_4 last_5 t_19 t_20
def law37_DeviceDoes_L1 : Nat → List law37_Op → device_Devices → ref37_Devices → Str → Int → Int → Option (Bool)
  | 0, _, _, _, _, _, _ => none
  | n + 1, ops_0, od_3, om_4, last_5, t_19, t_20 =>
    if decide (t_20 < t_19) then
      (idx ops_0 t_20).bind fun y825 =>
        (idx ops_0 t_20).bind fun y832 =>
          (law37_do od_3 y825 last_5).bind fun y840 =>
            (law37_model om_4 y832 last_5).bind fun y852 =>
              law37_DeviceDoes_B2 (law37_DeviceDoes_L1 n) ops_0 y840.2 y852.2 last_5 y840.1.text y840.1.list y840.1.n y840.1.is_ y840.1.e y852.1.text y852.1.list y852.1.n y852.1.is_ y852.1.e t_19 t_20
    else
      (law37_live).bind fun y1304 =>
        some (y1304)
def law37_DeviceDoes (ops_0 : List law37_Op) : Option (Bool) :=
  (device_New).bind fun y3 =>
    (law37_long ops_0 20).bind fun y13 =>
      if y13 || false then
        (law37_live).bind fun y27 =>
          some (y27)
      else
        (ref37_New).bind fun y32 =>
          law37_DeviceDoes_L1 fuel ops_0 y3 y32 ([]) (ops_0.length : Int) 0
end Go.KW.S
