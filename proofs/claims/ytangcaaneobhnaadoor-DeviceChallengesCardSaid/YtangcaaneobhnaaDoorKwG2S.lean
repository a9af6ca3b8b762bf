/- Own work: a part of the proofs of this seat. -/
import Derived.Test.YtangcaaneobhnaaDoorKwMap3
import Derived.Test.YtangcaaneobhnaaDoorKwSeg2
set_option linter.unusedVariables false
namespace Go.KW.S
open Go Go.KW
def tab_digest_digits : List Int := [48, 49, 50, 51, 52, 53, 54, 55, 56, 57, 97, 98, 99, 100, 101, 102]
structure law37_Op where
  Kind : Int
  User : Str
  ID : Str
  Secret : Str
  Until : Int
  Now : Int
  deriving DecidableEq
def law37_Op.c : Cdc law37_Op := Cdc.flat 6 (fun x => [.int .i64 x.Kind, str x.User, str x.ID, str x.Secret, .int .i64 x.Until, .int .i64 x.Now]) (fun _ => rfl) (fun _ u h => by simp at h; rcases h with rfl | rfl | rfl | rfl | rfl | rfl <;> rfl)
def law37_Op.eqb (x y : law37_Op) : Bool := (x.Kind == y.Kind) && (x.User == y.User) && (x.ID == y.ID) && (x.Secret == y.Secret) && (x.Until == y.Until) && (x.Now == y.Now)
structure device_key where
  user : Str
  id : Str
  deriving DecidableEq
def device_key.c : Cdc device_key := Cdc.flat 2 (fun x => [str x.user, str x.id]) (fun _ => rfl) (fun _ u h => by simp at h; rcases h with rfl | rfl <;> rfl)
def device_key.eqb (x y : device_key) : Bool := (x.user == y.user) && (x.id == y.id)
def device_key.ek (k : device_key) : Value := .agg #[str k.user, str k.id]
structure device_record where
  secret : Str
  challenge : Str
  until_ : Int
  deriving DecidableEq
def device_record.c : Cdc device_record := Cdc.flat 3 (fun x => [str x.secret, str x.challenge, .int .i64 x.until_]) (fun _ => rfl) (fun _ u h => by simp at h; rcases h with rfl | rfl | rfl <;> rfl)
def device_record.eqb (x y : device_record) : Bool := (x.secret == y.secret) && (x.challenge == y.challenge) && (x.until_ == y.until_)
structure device_Devices where
  records : GMap device_key device_record
  given : Int
  deriving DecidableEq
def device_Devices.O (τ : Nat → Nat) (ρ : Tags) (w : World) (g : Nat) (x : device_Devices) : Prop := ∃ v0, Blk ρ (τ 0) w g (.cells #[v0, .int .i64 x.given] 62 (0, 0)) ∧ MapT device_key.ek device_record.c true ρ (τ 1) w v0 x.records
structure law37_result where
  text : Str
  list : List Str
  n : Int
  is_ : Bool
  e : Int
  deriving DecidableEq
def law37_result.c : Cdc law37_result :=
  { size := 5, rd := fun A w cs x => ∃ v0, cs = [str x.text, v0, .int .i64 x.n, .bool x.is_, .int .i64 x.e] ∧ SlR strC A w v0 x.list
    len := fun h => by obtain ⟨_, h, _⟩ := h; rw [h]; rfl
    one := fun h u hu => by
      obtain ⟨v0, h, h0⟩ := h
      subst h
      simp at hu
      rcases hu with rfl | rfl | rfl | rfl | rfl
      all_goals first | rfl | exact SlR.oneCell (by assumption)
    step := fun h s => by
      obtain ⟨v0, h, h0⟩ := h
      exact ⟨v0, h, h0.step s⟩ }
def device_New : Option (device_Devices) :=
  some ((device_Devices.mk (some [] : GMap device_key device_record) 0))
def device_Devices_made (d_0 : device_Devices) : Option (Bool) :=
  some (!d_0.records.isNone)
def device_limited (n_0 : Int) : Option (Int) :=
  some (gmin (gmax n_0 0) 1099511627776)
def device_Devices_find (d_0 : device_Devices) (user_1 : Str) (id_2 : Str) (now_3 : Int) : Option (device_record × Int) :=
  (device_Devices_made d_0).bind fun y9 =>
    if !y9 then
      some ((device_record.mk ([]) ([]) 0), 1)
    else
      (some (mgetD d_0.records (device_key.mk user_1 id_2) (device_record.mk ([]) ([]) 0))).bind fun y21 =>
        if !(mhas d_0.records (device_key.mk user_1 id_2)) then
          some ((device_record.mk ([]) ([]) 0), 6)
        else
          (device_limited now_3).bind fun y35 =>
            if decide (y35 ≥ y21.until_) then
              some ((device_record.mk ([]) ([]) 0), 13)
            else
              some (y21, 0)
def codec_Int (n_0 : Int) : Option (Str) :=
  (lib_Itoa n_0).bind fun y1 =>
    some (y1)
def digest_Sum_L1 : Nat → Str → Int → Int → Int → Option (Int)
  | 0, _, _, _, _ => none
  | n + 1, s_0, h_3, t_6, t_7 =>
    if decide (t_7 < t_6) then
      chk (inb t_7 s_0.length) (
        (digest_Sum_L1 n) s_0 (IntKind.u64.wrap ((bXor .u64 h_3 (IntKind.u64.wrap (byteAt s_0 t_7))) * 1099511628211)) t_6 (IntKind.i64.wrap (t_7 + 1)))
    else
      some (bXor .u64 (IntKind.u64.wrap ((bXor .u64 (IntKind.u64.wrap ((bXor .u64 h_3 (bShr .u64 h_3 33)) * 18397679294719823053)) (bShr .u64 (IntKind.u64.wrap ((bXor .u64 h_3 (bShr .u64 h_3 33)) * 18397679294719823053)) 33)) * 14181476777654086739)) (bShr .u64 (IntKind.u64.wrap ((bXor .u64 (IntKind.u64.wrap ((bXor .u64 h_3 (bShr .u64 h_3 33)) * 18397679294719823053)) (bShr .u64 (IntKind.u64.wrap ((bXor .u64 h_3 (bShr .u64 h_3 33)) * 18397679294719823053)) 33)) * 14181476777654086739)) 33))
def digest_Sum (s_0 : Str) : Option (Int) :=
  digest_Sum_L1 fuel s_0 14695981039346656037 (s_0.length : Int) 0
def digest_Hex_L1 : Nat → Int → List Int → Int → Option (Str)
  | 0, _, _, _ => none
  | n + 1, n_0, b_3, t_5 =>
    if decide (t_5 < 16) then
      chk (decide (0 ≤ IntKind.i64.wrap (4 * t_5))) (
        chk (inb (bAnd .u64 (bShr .u64 n_0 (IntKind.i64.wrap (4 * t_5))) 15) 16) (
          (idx tab_digest_digits (bAnd .u64 (bShr .u64 n_0 (IntKind.i64.wrap (4 * t_5))) 15)).bind fun y11 =>
            chk (inb (IntKind.i64.wrap (15 - t_5)) 16) (
              chk (inb (IntKind.i64.wrap (15 - t_5)) b_3.length) (
                (digest_Hex_L1 n) n_0 (setAt b_3 (IntKind.i64.wrap (15 - t_5)) y11) (IntKind.i64.wrap (t_5 + 1))))))
    else
      chk (b_3.length == 16) (
        some (bytesStr b_3))
def digest_Hex (n_0 : Int) : Option (Str) :=
  digest_Hex_L1 fuel n_0 ([0, 0, 0, 0, 0, 0, 0, 0, 0, 0, 0, 0, 0, 0, 0, 0]) 0
def digest_Text (s_0 : Str) : Option (Str) :=
  (digest_Sum s_0).bind fun y1 =>
    (digest_Hex y1).bind fun y5 =>
      some (y5)
def proof_Unique (seed_0 : Str) (n_1 : Int) : Option (Str) :=
  (codec_Int n_1).bind fun y1 =>
    chk (fitS y1 ([58])) (
      chk (fitS (y1 ++ ([58])) seed_0) (
        (digest_Text ((y1 ++ ([58])) ++ seed_0)).bind fun y7 =>
          chk (fitS ([117]) y7) (
            some (([117]) ++ y7))))
def device_Devices_Challenge (d_0 : device_Devices) (user_1 : Str) (id_2 : Str) (now_3 : Int) : Option (Str × Int × device_Devices) :=
  (device_Devices_find d_0 user_1 id_2 now_3).bind fun y4 =>
    if y4.2 != 0 then
      some ([], y4.2, d_0)
    else
      chk (fitS user_1 ([124])) (
        chk (fitS (user_1 ++ ([124])) id_2) (
          (proof_Unique ((user_1 ++ ([124])) ++ id_2) (IntKind.i64.wrap (d_0.given + 1))).bind fun y21 =>
            chk d_0.records.isSome (
              some (y21, 0, (device_Devices.mk (mput d_0.records (device_key.mk user_1 id_2) (device_record.mk y4.1.secret y21 y4.1.until_)) (IntKind.i64.wrap (d_0.given + 1)))))))
def fold_upper (c_0 : Int) : Option (Bool) :=
  some ((decide (c_0 ≥ 65)) && (decide (c_0 ≤ 90)))
def fold_letter (c_0 : Int) : Option (Bool) :=
  (fold_upper c_0).bind fun y1 =>
    some (y1 || ((decide (c_0 ≥ 97)) && (decide (c_0 ≤ 122))))
def fold_digit (c_0 : Int) : Option (Bool) :=
  some ((decide (c_0 ≥ 48)) && (decide (c_0 ≤ 57)))
def fold_Word_1 (c_0 : Int) : Option (Bool) :=
  (fold_letter c_0).bind fun y1 =>
    Option.bind (if y1 then
        some true
      else
        (fold_digit c_0).bind fun y12 =>
          some y12
      ) fun z7 =>
      some ((((z7 || (c_0 == 45)) || (c_0 == 95)) || (c_0 == 46)) || (c_0 == 58))
def fold_made__Word_1_L1 : Nat → Str → Int → Int → Option (Bool)
  | 0, _, _, _ => none
  | n + 1, s_0, t_7, t_8 =>
    if decide (t_8 < t_7) then
      chk (inb t_8 s_0.length) (
        (fold_Word_1 (byteAt s_0 t_8)).bind fun y3 =>
          if !y3 then
            some (false)
          else
            (fold_made__Word_1_L1 n) s_0 t_7 (IntKind.i64.wrap (t_8 + 1)))
    else
      some ((!(s_0 == ([]))) && (decide ((s_0.length : Int) ≤ 64)))
def fold_made__Word_1 (s_0 : Str) : Option (Bool) :=
  fold_made__Word_1_L1 fuel s_0 (s_0.length : Int) 0
def fold_Word (s_0 : Str) : Option (Bool) :=
  (fold_made__Word_1 s_0).bind fun y1 =>
    some (y1)
def fold_Trim (s_0 : Str) : Option (Str) :=
  (lib_Trim s_0 ([32])).bind fun y1 =>
    some (y1)
def fold_Clean_L1 : Nat → Str → Str → Nat → Option (Bool)
  | 0, _, _, _ => none
  | n + 1, s_0, t_6s, t_6p =>
    if decide (t_6p < t_6s.length) then
      if (decide (((sdec t_6s t_6p).1) < 32)) || (decide (((sdec t_6s t_6p).1) > 126)) then
        some (false)
      else
        (fold_Clean_L1 n) s_0 t_6s (t_6p + (sdec t_6s t_6p).2)
    else
      Option.bind (if (!(s_0 == ([]))) && (decide ((s_0.length : Int) ≤ 256)) then
          (fold_Trim s_0).bind fun y33 =>
            some (y33 == s_0)
        else
          some false
        ) fun z28 =>
        some (z28)
def fold_Clean (s_0 : Str) : Option (Bool) :=
  fold_Clean_L1 fuel s_0 s_0 0
def device_Devices_Trust_B2 (ogd_0 : device_Devices) : Option (Int × device_Devices) :=
  some (0, ogd_0)
def device_Devices_Trust_B1 (od_0 : device_Devices) (k_13_0 : Str) (k_13_1 : Str) (r_14_0 : Str) (r_14_1 : Str) (r_14_2 : Int) (n_16_0 : Str) (n_16_1 : Str) (n_16_2 : Int) : Option (Int × device_Devices) :=
  if !(device_record.eqb (device_record.mk n_16_0 n_16_1 n_16_2) (device_record.mk r_14_0 r_14_1 r_14_2)) then
    chk od_0.records.isSome (
      device_Devices_Trust_B2 (device_Devices.mk (mput od_0.records (device_key.mk k_13_0 k_13_1) (device_record.mk n_16_0 n_16_1 n_16_2)) od_0.given))
  else
    device_Devices_Trust_B2 od_0
def device_Devices_Trust (d_0 : device_Devices) (user_1 : Str) (id_2 : Str) (secret_3 : Str) (until_4 : Int) (now_5 : Int) : Option (Int × device_Devices) :=
  (device_limited until_4).bind fun y4 =>
    (device_limited now_5).bind fun y9 =>
      (device_Devices_made d_0).bind fun y21 =>
        if !y21 then
          some (1, d_0)
        else
          (fold_Word user_1).bind fun y27 =>
            Option.bind (if !y27 then
                some true
              else
                (fold_Word id_2).bind fun y40 =>
                  some (!y40)
              ) fun z34 =>
              if z34 then
                some (5, d_0)
              else
                (fold_Clean secret_3).bind fun y46 =>
                  if !y46 then
                    some (4, d_0)
                  else
                    if decide (y4 ≤ y9) then
                      some (13, d_0)
                    else
                      (some (mgetD d_0.records (device_key.mk user_1 id_2) (device_record.mk ([]) ([]) 0))).bind fun y91 =>
                        if (!(mhas d_0.records (device_key.mk user_1 id_2))) && (decide ((mlen d_0.records) ≥ 256)) then
                          some (3, d_0)
                        else
                          if y91.secret == secret_3 then
                            device_Devices_Trust_B1 d_0 user_1 id_2 y91.secret y91.challenge y91.until_ secret_3 y91.challenge (gmax y91.until_ y4)
                          else
                            device_Devices_Trust_B1 d_0 user_1 id_2 y91.secret y91.challenge y91.until_ secret_3 ([]) (gmax y91.until_ y4)
def digest_Mac (key_0 : Str) (s_1 : Str) : Option (Str) :=
  (lib_Itoa (key_0.length : Int)).bind fun y1 =>
    chk (fitS y1 ([58])) (
      chk (fitS (y1 ++ ([58])) key_0) (
        chk (fitS ((y1 ++ ([58])) ++ key_0) s_1) (
          (digest_Text (((y1 ++ ([58])) ++ key_0) ++ s_1)).bind fun y8 =>
            chk (fitS ((y1 ++ ([58])) ++ key_0) y8) (
              (digest_Text (((y1 ++ ([58])) ++ key_0) ++ y8)).bind fun y13 =>
                some (y13)))))
def device_Answer (secret_0 : Str) (challenge_1 : Str) : Option (Str) :=
  (digest_Mac secret_0 challenge_1).bind fun y1 =>
    some (y1)
def device_Devices_Prove (d_0 : device_Devices) (user_1 : Str) (id_2 : Str) (answer_3 : Str) (now_4 : Int) : Option (Int × device_Devices) :=
  (device_Devices_find d_0 user_1 id_2 now_4).bind fun y4 =>
    if y4.2 != 0 then
      some (y4.2, d_0)
    else
      if y4.1.challenge == ([]) then
        some (12, d_0)
      else
        (device_Answer y4.1.secret y4.1.challenge).bind fun y18 =>
          chk d_0.records.isSome (
            if !(answer_3 == y18) then
              some (11, (device_Devices.mk (mput d_0.records (device_key.mk user_1 id_2) (device_record.mk y4.1.secret ([]) y4.1.until_)) d_0.given))
            else
              some (0, (device_Devices.mk (mput d_0.records (device_key.mk user_1 id_2) (device_record.mk y4.1.secret ([]) y4.1.until_)) d_0.given)))
def device_Devices_Trusted (d_0 : device_Devices) (user_1 : Str) (id_2 : Str) (now_3 : Int) : Option (Bool) :=
  (device_Devices_made d_0).bind fun y4 =>
    if !y4 then
      some (false)
    else
      (some (mgetD d_0.records (device_key.mk user_1 id_2) (device_record.mk ([]) ([]) 0))).bind fun y14 =>
        Option.bind (if mhas d_0.records (device_key.mk user_1 id_2) then
            (device_limited now_3).bind fun y32 =>
              some (decide (y32 < y14.until_))
          else
            some false
          ) fun z27 =>
          some (z27)
def device_Devices_List_B2 (r0 : device_Devices → Str → Int → List Str → List device_key → Option (List Str)) (od_0 : device_Devices) (user_1 : Str) (now_2 : Int) (out_7 : List Str) (t_16 : List device_key) : Option (List Str) :=
  r0 od_0 user_1 now_2 out_7 t_16
def device_Devices_List_L1 : Nat → device_Devices → Str → Int → List Str → List device_key → Option (List Str)
  | 0, _, _, _, _, _ => none
  | n + 1, od_0, user_1, now_2, out_7, t_16 =>
    pickAny (mleft od_0.records t_16) (
        (lib_Sort out_7).bind fun y65 =>
          some (y65))
      fun e22 =>
        Option.bind (if e22.1.user == user_1 then
            (device_Devices_Trusted od_0 user_1 e22.1.id now_2).bind fun y43 =>
              some y43
          else
            some false
          ) fun z37 =>
          if z37 then
            chk (fitL out_7.length ([e22.1.id] : List Str).length) (
              device_Devices_List_B2 (device_Devices_List_L1 n) od_0 user_1 now_2 (out_7 ++ ([e22.1.id] : List Str)) (e22.1 :: t_16))
          else
            device_Devices_List_B2 (device_Devices_List_L1 n) od_0 user_1 now_2 out_7 (e22.1 :: t_16)
def device_Devices_List (d_0 : device_Devices) (user_1 : Str) (now_2 : Int) : Option (List Str) :=
  (device_Devices_made d_0).bind fun y6 =>
    if !y6 then
      some (([] : List Str))
    else
      device_Devices_List_L1 fuel d_0 user_1 now_2 ([] : List Str) ([] : List device_key)
def ref02_Same_L1 : Nat → List Str → List Str → Int → Option (Bool)
  | 0, _, _, _ => none
  | n + 1, a_0, b_1, i_5 =>
    if decide (i_5 < (a_0.length : Int)) then
      (idx a_0 i_5).bind fun y9 =>
        (idx b_1 i_5).bind fun y15 =>
          if !(y9 == y15) then
            some (false)
          else
            (ref02_Same_L1 n) a_0 b_1 (IntKind.i64.wrap (i_5 + 1))
    else
      some (true)
def ref02_Same (a_0 : List Str) (b_1 : List Str) : Option (Bool) :=
  if (a_0.length : Int) != (b_1.length : Int) then
    some (false)
  else
    ref02_Same_L1 fuel a_0 b_1 0
def device_Devices_Drop_B2 (r0 : device_Devices → Str → Int → List device_key → Option (Int × device_Devices)) (od_0 : device_Devices) (user_1 : Str) (n_5 : Int) (t_19 : List device_key) : Option (Int × device_Devices) :=
  r0 od_0 user_1 n_5 t_19
def device_Devices_Drop_L1 : Nat → device_Devices → Str → Int → List device_key → Option (Int × device_Devices)
  | 0, _, _, _, _ => none
  | n + 1, od_0, user_1, n_5, t_19 =>
    pickAny (mleft od_0.records t_19) (
        some (IntKind.i64.wrap (n_5 - (mlen od_0.records)), od_0))
      fun e18 =>
        if e18.1.user == user_1 then
          device_Devices_Drop_B2 (device_Devices_Drop_L1 n) (device_Devices.mk (mdel od_0.records e18.1) od_0.given) user_1 n_5 (e18.1 :: t_19)
        else
          device_Devices_Drop_B2 (device_Devices_Drop_L1 n) od_0 user_1 n_5 (e18.1 :: t_19)
def device_Devices_Drop (d_0 : device_Devices) (user_1 : Str) : Option (Int × device_Devices) :=
  (device_Devices_made d_0).bind fun y4 =>
    if !y4 then
      some (0, d_0)
    else
      device_Devices_Drop_L1 fuel d_0 user_1 (mlen d_0.records) ([] : List device_key)
def device_Devices_Revoke (d_0 : device_Devices) (user_1 : Str) (id_2 : Str) : Option (Bool × device_Devices) :=
  (device_Devices_made d_0).bind fun y4 =>
    if !y4 then
      some (false, d_0)
    else
      (some (mgetD d_0.records (device_key.mk user_1 id_2) (device_record.mk ([]) ([]) 0))).bind fun y55 =>
        some (mhas d_0.records (device_key.mk user_1 id_2), (device_Devices.mk (mdel d_0.records (device_key.mk user_1 id_2)) d_0.given))
def law37_live : Option (Bool) :=
  (device_New).bind fun y1 =>
    (device_Devices_Challenge y1 ([117]) ([100]) 5).bind fun y11 =>
      (device_Devices_Trust y11.2.2 ([117]) ([100]) ([115]) 100 5).bind fun y20 =>
        (device_Devices_Trust y20.2 ([117]) ([100]) ([115]) 50 5).bind fun y29 =>
          (device_Devices_Challenge y29.2 ([117]) ([100]) 99).bind fun y38 =>
            (device_Answer ([115]) y38.1).bind fun y47 =>
              (device_Devices_Prove y38.2.2 ([117]) ([100]) y47 99).bind fun y52 =>
                (device_Answer ([115]) y38.1).bind fun y61 =>
                  (device_Devices_Prove y52.2 ([117]) ([100]) y61 99).bind fun y66 =>
                    (device_Devices_Trust y66.2 ([117]) ([100]) ([115]) 5 5).bind fun y75 =>
                      Option.bind (if (((y11.2.1 == 6) && (y20.1 == 0)) && (y29.1 == 0)) && (y38.2.1 == 0) then
                          (proof_Unique ([117, 124, 100]) 1).bind fun y116 =>
                            some (y38.1 == y116)
                        else
                          some false
                        ) fun z110 =>
                        Option.bind (if ((z110 && (y52.1 == 0)) && (y66.1 == 12)) && (y75.1 == 13) then
                            (device_Devices_Trusted y75.2 ([117]) ([100]) 99).bind fun y153 =>
                              some y153
                          else
                            some false
                          ) fun z147 =>
                          Option.bind (if z147 then
                              (device_Devices_Trusted y75.2 ([117]) ([100]) 100).bind fun y166 =>
                                some (!y166)
                            else
                              some false
                            ) fun z160 =>
                            Option.bind (if z160 then
                                (device_Devices_List y75.2 ([117]) 99).bind fun y179 =>
                                  (ref02_Same y179 ([[100]] : List Str)).bind fun y191 =>
                                    some y191
                              else
                                some false
                              ) fun z173 =>
                              Option.bind (if z173 then
                                  (device_Devices_Drop y75.2 ([117])).bind fun y204 =>
                                    some (y204.1 == 1, y204.2)
                                else
                                  some (false, y75.2)
                                ) fun z198 =>
                                Option.bind (if z198.1 then
                                    (device_Devices_Revoke z198.2 ([117]) ([100])).bind fun y224 =>
                                      some (!y224.1, y224.2)
                                  else
                                    some (false, z198.2)
                                  ) fun z218 =>
                                  Option.bind (if z218.1 then
                                      (device_Answer ([115]) ([99])).bind fun y244 =>
                                        (digest_Mac ([115]) ([99])).bind fun y249 =>
                                          some (y244 == y249)
                                    else
                                      some false
                                    ) fun z238 =>
                                    some (z238)
def ref02_Great_L1 : Nat → List Str → Int → Int → Option (Bool)
  | 0, _, _, _ => none
  | n + 1, l_0, long_2, i_7 =>
    if decide (i_7 < (l_0.length : Int)) then
      (idx l_0 i_7).bind fun y5 =>
        if decide ((y5.length : Int) > long_2) then
          some (true)
        else
          (ref02_Great_L1 n) l_0 long_2 (IntKind.i64.wrap (i_7 + 1))
    else
      some (false)
def ref02_Great (l_0 : List Str) (most_1 : Int) (long_2 : Int) : Option (Bool) :=
  if decide ((l_0.length : Int) > most_1) then
    some (true)
  else
    ref02_Great_L1 fuel l_0 long_2 0
def law37_long_L1 : Nat → List law37_Op → Int → Int → Option (Bool)
  | 0, _, _, _ => none
  | n + 1, ops_0, t_11, t_12 =>
    if decide (t_12 < t_11) then
      (idx ops_0 t_12).bind fun y75 =>
        (idx ops_0 t_12).bind fun y82 =>
          (idx ops_0 t_12).bind fun y89 =>
            (ref02_Great ([y75.User, y82.ID, y89.Secret] : List Str) 3 300).bind fun y103 =>
              if y103 then
                some (true)
              else
                (law37_long_L1 n) ops_0 t_11 (IntKind.i64.wrap (t_12 + 1))
    else
      some (false)
def law37_long (ops_0 : List law37_Op) (most_1 : Int) : Option (Bool) :=
  if decide ((ops_0.length : Int) > most_1) then
    some (true)
  else
    law37_long_L1 fuel ops_0 (ops_0.length : Int) 0
def law37_do_B1 (t_6_0 : Str) (t_6_1 : List Str) (t_6_2 : Int) (t_6_3 : Bool) (t_6_4 : Int) (r_7_0 : Str) (r_7_1 : List Str) (r_7_2 : Int) (r_7_3 : Bool) (r_7_4 : Int) (ogd_0 : device_Devices) : Option (law37_result × device_Devices) :=
  some ((law37_result.mk r_7_0 r_7_1 r_7_2 r_7_3 r_7_4), ogd_0)
def law37_do (d_0 : device_Devices) (o_1 : law37_Op) (last_2 : Str) : Option (law37_result × device_Devices) :=
  if o_1.Kind == 1 then
    (device_Devices_Trust d_0 o_1.User o_1.ID o_1.Secret o_1.Until o_1.Now).bind fun y22 =>
      law37_do_B1 ([]) ([] : List Str) 0 false 0 ([]) ([] : List Str) 0 false y22.1 y22.2
  else
    if o_1.Kind == 2 then
      (device_Devices_Challenge d_0 o_1.User o_1.ID o_1.Now).bind fun y41 =>
        law37_do_B1 ([]) ([] : List Str) 0 false 0 y41.1 ([] : List Str) 0 false y41.2.1 y41.2.2
    else
      if o_1.Kind == 3 then
        (device_Devices_Prove d_0 o_1.User o_1.ID o_1.Secret o_1.Now).bind fun y55 =>
          law37_do_B1 ([]) ([] : List Str) 0 false 0 ([]) ([] : List Str) 0 false y55.1 y55.2
      else
        if o_1.Kind == 4 then
          (device_Answer o_1.Secret last_2).bind fun y110 =>
            (device_Devices_Prove d_0 o_1.User o_1.ID y110 o_1.Now).bind fun y116 =>
              law37_do_B1 ([]) ([] : List Str) 0 false 0 ([]) ([] : List Str) 0 false y116.1 y116.2
        else
          if o_1.Kind == 5 then
            (device_Devices_Revoke d_0 o_1.User o_1.ID).bind fun y129 =>
              law37_do_B1 ([]) ([] : List Str) 0 false 0 ([]) ([] : List Str) 0 y129.1 0 y129.2
          else
            if o_1.Kind == 6 then
              (device_Devices_List d_0 o_1.User o_1.Now).bind fun y141 =>
                law37_do_B1 ([]) ([] : List Str) 0 false 0 ([]) y141 0 false 0 d_0
            else
              if o_1.Kind == 7 then
                (device_Devices_Drop d_0 o_1.User).bind fun y151 =>
                  law37_do_B1 ([]) ([] : List Str) 0 false 0 ([]) ([] : List Str) y151.1 false 0 y151.2
              else
                if o_1.Kind == 8 then
                  (device_Devices_Trusted d_0 o_1.User o_1.ID o_1.Now).bind fun y163 =>
                    law37_do_B1 ([]) ([] : List Str) 0 false 0 ([]) ([] : List Str) 0 y163 0 d_0
                else
                  law37_do_B1 ([]) ([] : List Str) 0 false 0 ([]) ([] : List Str) 0 false 0 d_0
def law37_run_B2 (r0 : List law37_Op → device_Devices → Str → Int → Int → Option (device_Devices × Str)) (ops_0 : List law37_Op) (od_4 : device_Devices) (last_5 : Str) (t_10 : Int) (t_11 : Int) : Option (device_Devices × Str) :=
  r0 ops_0 od_4 last_5 t_10 (IntKind.i64.wrap (t_11 + 1))
def law37_run_L1 : Nat → List law37_Op → device_Devices → Str → Int → Int → Option (device_Devices × Str)
  | 0, _, _, _, _, _ => none
  | n + 1, ops_0, od_4, last_5, t_10, t_11 =>
    if decide (t_11 < t_10) then
      (idx ops_0 t_11).bind fun y17 =>
        (law37_do od_4 y17 last_5).bind fun y24 =>
          if !(y24.1.text == ([])) then
            law37_run_B2 (law37_run_L1 n) ops_0 y24.2 y24.1.text t_10 t_11
          else
            law37_run_B2 (law37_run_L1 n) ops_0 y24.2 last_5 t_10 t_11
    else
      some (od_4, last_5)
def law37_run (ops_0 : List law37_Op) : Option (device_Devices × Str) :=
  (device_New).bind fun y3 =>
    law37_run_L1 fuel ops_0 y3 ([]) (ops_0.length : Int) 0
def law37_DeviceOnce_B1 (user_1 : Str) (id_2 : Str) (secret_3 : Str) (again_5 : Str) (now_6 : Int) (od_15 : device_Devices) (c_17 : Str) (answer_19 : Str) : Option (Bool) :=
  (device_Devices_Prove od_15 user_1 id_2 answer_19 now_6).bind fun y75 =>
    if (y75.1 != 0) && (y75.1 != 11) then
      some (false)
    else
      (device_Answer secret_3 c_17).bind fun y93 =>
        (device_Devices_Prove y75.2 user_1 id_2 y93 now_6).bind fun y98 =>
          Option.bind (if y98.1 == 12 then
              (device_Devices_Prove y98.2 user_1 id_2 again_5 now_6).bind fun y115 =>
                some (y115.1 == 12, y115.2)
            else
              some (false, y98.2)
            ) fun z109 =>
            some (z109.1)
def law37_DeviceOnce (ops_0 : List law37_Op) (user_1 : Str) (id_2 : Str) (secret_3 : Str) (wrong_4 : Str) (again_5 : Str) (now_6 : Int) : Option (Bool) :=
  (law37_live).bind fun y3 =>
    if !y3 then
      some (false)
    else
      (law37_long ops_0 20).bind fun y9 =>
        Option.bind (if y9 then
            some true
          else
            (ref02_Great ([user_1, id_2, secret_3, wrong_4, again_5] : List Str) 5 300).bind fun y27 =>
              some y27
          ) fun z16 =>
          if z16 then
            some (true)
          else
            (law37_run ops_0).bind fun y33 =>
              (device_Devices_Challenge y33.1 user_1 id_2 now_6).bind fun y43 =>
                if y43.2.1 != 0 then
                  Option.bind (if y43.1 == ([]) then
                      (device_Devices_Trusted y43.2.2 user_1 id_2 now_6).bind fun y61 =>
                        some (!y61)
                    else
                      some false
                    ) fun z55 =>
                    some (z55)
                else
                  if again_5 == ([]) then
                    (device_Answer secret_3 y43.1).bind fun y67 =>
                      law37_DeviceOnce_B1 user_1 id_2 secret_3 again_5 now_6 y43.2.2 y43.1 y67
                  else
                    law37_DeviceOnce_B1 user_1 id_2 secret_3 again_5 now_6 y43.2.2 y43.1 wrong_4
def ref02_Int_B2 (r0 : Int → Str → Int → Option (Str)) (n_0 : Int) (out_3 : Str) (m_4 : Int) (d_5 : Int) : Option (Str) :=
  chk (fitS (bytesStr ([IntKind.u8.wrap (IntKind.i64.wrap (48 + d_5))] : List Int)) out_3) (
    r0 n_0 ((bytesStr ([IntKind.u8.wrap (IntKind.i64.wrap (48 + d_5))] : List Int)) ++ out_3) (IntKind.i64.wrap (m_4.tdiv 10)))
def ref02_Int_L1 : Nat → Int → Str → Int → Option (Str)
  | 0, _, _, _ => none
  | n + 1, n_0, out_3, m_4 =>
    if m_4 != 0 then
      if decide ((Int.tmod m_4 10) < 0) then
        ref02_Int_B2 (ref02_Int_L1 n) n_0 out_3 m_4 (IntKind.i64.wrap (0 - (Int.tmod m_4 10)))
      else
        ref02_Int_B2 (ref02_Int_L1 n) n_0 out_3 m_4 (Int.tmod m_4 10)
    else
      if decide (n_0 < 0) then
        chk (fitS ([45]) out_3) (
          some (([45]) ++ out_3))
      else
        some (out_3)
def ref02_Int (n_0 : Int) : Option (Str) :=
  if n_0 == 0 then
    some ([48])
  else
    ref02_Int_L1 fuel n_0 ([]) n_0
def law37_DeviceChallenges_B2 (r0 : List law37_Op → device_Devices → List Str → List Str → Int → Int → Option (Bool)) (ops_0 : List law37_Op) (od_3 : device_Devices) (texts_4 : List Str) (forms_5 : List Str) (t_16 : Int) (t_17 : Int) : Option (Bool) :=
  r0 ops_0 od_3 texts_4 forms_5 t_16 (IntKind.i64.wrap (t_17 + 1))
def law37_DeviceChallenges_L3 (r0 : List law37_Op → device_Devices → List Str → List Str → Int → Int → Option (Bool)) : Nat → List law37_Op → device_Devices → List Str → List Str → Int → Str → Int → Int → Int → Int → Option (Bool)
  | 0, _, _, _, _, _, _, _, _, _, _ => none
  | n + 1, ops_0, od_3, texts_4, forms_5, i_6, c_7, t_16, t_17, t_91, t_92 =>
    if decide (t_92 < t_91) then
      (idx texts_4 t_92).bind fun y390 =>
        Option.bind (if y390 == c_7 then
            (idx forms_5 t_92).bind fun y406 =>
              (digest_Text y406).bind fun y415 =>
                (idx forms_5 (texts_4.length : Int)).bind fun y420 =>
                  (digest_Text y420).bind fun y429 =>
                    some (!(y415 == y429))
          else
            some false
          ) fun z401 =>
          if z401 then
            some (false)
          else
            (law37_DeviceChallenges_L3 r0 n) ops_0 od_3 texts_4 forms_5 i_6 c_7 t_16 t_17 t_91 (IntKind.i64.wrap (t_92 + 1))
    else
      chk (fitL texts_4.length ([c_7] : List Str).length) (
        (idx ops_0 i_6).bind fun y449 =>
          chk (fitS y449.User ([124])) (
            (idx ops_0 i_6).bind fun y457 =>
              chk (fitS (y449.User ++ ([124])) y457.ID) (
                (proof_Unique ((y449.User ++ ([124])) ++ y457.ID) ((texts_4 ++ ([c_7] : List Str)).length : Int)).bind fun y465 =>
                  if !(c_7 == y465) then
                    some (false)
                  else
                    law37_DeviceChallenges_B2 r0 ops_0 od_3 (texts_4 ++ ([c_7] : List Str)) forms_5 t_16 t_17)))
def law37_DeviceChallenges_L1 : Nat → List law37_Op → device_Devices → List Str → List Str → Int → Int → Option (Bool)
  | 0, _, _, _, _, _, _ => none
  | n + 1, ops_0, od_3, texts_4, forms_5, t_16, t_17 =>
    if decide (t_17 < t_16) then
      (idx ops_0 t_17).bind fun y95 =>
        (idx ops_0 t_17).bind fun y102 =>
          (idx ops_0 t_17).bind fun y109 =>
            (device_Devices_Challenge od_3 y95.User y102.ID y109.Now).bind fun y117 =>
              if y117.2.1 != 0 then
                (idx ops_0 t_17).bind fun y221 =>
                  (idx ops_0 t_17).bind fun y228 =>
                    (idx ops_0 t_17).bind fun y235 =>
                      (idx ops_0 t_17).bind fun y242 =>
                        (idx ops_0 t_17).bind fun y249 =>
                          (device_Devices_Trust y117.2.2 y221.User y228.ID y235.Secret y242.Until y249.Now).bind fun y257 =>
                            law37_DeviceChallenges_B2 (law37_DeviceChallenges_L1 n) ops_0 y257.2 texts_4 forms_5 t_16 t_17
              else
                (idx ops_0 t_17).bind fun y347 =>
                  (idx ops_0 t_17).bind fun y354 =>
                    (ref02_Int (IntKind.i64.wrap ((texts_4.length : Int) + 1))).bind fun y362 =>
                      chk (fitS y362 ([58])) (
                        chk (fitS (y362 ++ ([58])) y347.User) (
                          chk (fitS ((y362 ++ ([58])) ++ y347.User) ([124])) (
                            chk (fitS (((y362 ++ ([58])) ++ y347.User) ++ ([124])) y354.ID) (
                              chk (fitL forms_5.length ([(((y362 ++ ([58])) ++ y347.User) ++ ([124])) ++ y354.ID] : List Str).length) (
                                law37_DeviceChallenges_L3 (law37_DeviceChallenges_L1 n) fuel ops_0 y117.2.2 texts_4 (forms_5 ++ ([(((y362 ++ ([58])) ++ y347.User) ++ ([124])) ++ y354.ID] : List Str)) t_17 y117.1 t_16 t_17 (texts_4.length : Int) 0)))))
    else
      some (true)
def law37_DeviceChallenges (ops_0 : List law37_Op) : Option (Bool) :=
  (law37_live).bind fun y3 =>
    if !y3 then
      some (false)
    else
      (law37_long ops_0 20).bind fun y9 =>
        if y9 then
          some (true)
        else
          (device_New).bind fun y15 =>
            law37_DeviceChallenges_L1 fuel ops_0 y15 ([] : List Str) ([] : List Str) (ops_0.length : Int) 0
def law37_DeviceApart_B2 (r0 : List law37_Op → Str → Str → Int → device_Devices → device_Devices → Str → Int → Int → Option (Bool)) (others_1 : List law37_Op) (user_2 : Str) (id_3 : Str) (now_4 : Int) (oa_11 : device_Devices) (ob_13 : device_Devices) (last_14 : Str) (t_45 : Int) (t_46 : Int) : Option (Bool) :=
  r0 others_1 user_2 id_3 now_4 oa_11 ob_13 last_14 t_45 (IntKind.i64.wrap (t_46 + 1))
def law37_DeviceApart_L1 : Nat → List law37_Op → Str → Str → Int → device_Devices → device_Devices → Str → Int → Int → Option (Bool)
  | 0, _, _, _, _, _, _, _, _, _ => none
  | n + 1, others_1, user_2, id_3, now_4, oa_11, ob_13, last_14, t_45, t_46 =>
    if decide (t_46 < t_45) then
      (idx others_1 t_46).bind fun y75 =>
        if !(y75.User == user_2) then
          (idx others_1 t_46).bind fun y83 =>
            (law37_do ob_13 y83 last_14).bind fun y90 =>
              law37_DeviceApart_B2 (law37_DeviceApart_L1 n) others_1 user_2 id_3 now_4 oa_11 y90.2 last_14 t_45 t_46
        else
          law37_DeviceApart_B2 (law37_DeviceApart_L1 n) others_1 user_2 id_3 now_4 oa_11 ob_13 last_14 t_45 t_46
    else
      (device_Devices_Trusted oa_11 user_2 id_3 now_4).bind fun y107 =>
        (device_Devices_Trusted ob_13 user_2 id_3 now_4).bind fun y112 =>
          Option.bind (if y107 != y112 then
              some true
            else
              (device_Devices_List oa_11 user_2 now_4).bind fun y125 =>
                (device_Devices_List ob_13 user_2 now_4).bind fun y132 =>
                  (ref02_Same y125 y132).bind fun y139 =>
                    some (!y139)
            ) fun z119 =>
            if z119 then
              some (false)
            else
              (device_Devices_List ob_13 user_2 0).bind fun y145 =>
                (device_Devices_Drop ob_13 user_2).bind fun y152 =>
                  Option.bind (if decide (y152.1 < (y145.length : Int)) then
                      some (true, oa_11)
                    else
                      (device_Devices_Drop oa_11 user_2).bind fun y169 =>
                        some (y152.1 != y169.1, y169.2)
                    ) fun z163 =>
                    if z163.1 then
                      some (false)
                    else
                      (device_Devices_Challenge y152.2 user_2 id_3 now_4).bind fun y182 =>
                        (device_Devices_List y182.2.2 user_2 now_4).bind fun y191 =>
                          Option.bind (if ((y191.length : Int) == 0) && (y182.2.1 == 6) then
                              (device_Devices_Trusted y182.2.2 user_2 id_3 0).bind fun y214 =>
                                some (!y214)
                            else
                              some false
                            ) fun z208 =>
                            some (z208)
def law37_DeviceApart (ops_0 : List law37_Op) (others_1 : List law37_Op) (user_2 : Str) (id_3 : Str) (now_4 : Int) : Option (Bool) :=
  (law37_live).bind fun y5 =>
    if !y5 then
      some (false)
    else
      (law37_long ops_0 12).bind fun y11 =>
        Option.bind (if y11 then
            some true
          else
            (law37_long others_1 12).bind fun y24 =>
              some y24
          ) fun z18 =>
          Option.bind (if z18 then
              some true
            else
              (ref02_Great ([user_2, id_3] : List Str) 2 300).bind fun y42 =>
                some y42
            ) fun z31 =>
            if z31 then
              some (true)
            else
              (law37_run ops_0).bind fun y48 =>
                (law37_run ops_0).bind fun y58 =>
                  law37_DeviceApart_L1 fuel others_1 user_2 id_3 now_4 y48.1 y58.1 y58.2 (others_1.length : Int) 0
def law37_DeviceAnswers (user_0 : Str) (id_1 : Str) (secret_2 : Str) (other_3 : Str) (until_4 : Int) (now_5 : Int) : Option (Bool) :=
  (law37_live).bind fun y1 =>
    if !y1 then
      some (false)
    else
      (ref02_Great ([user_0, id_1, secret_2, other_3] : List Str) 4 300).bind fun y12 =>
        if y12 then
          some (true)
        else
          (device_New).bind fun y18 =>
            (device_Devices_Trust y18 user_0 id_1 secret_2 until_4 now_5).bind fun y28 =>
              if y28.1 != 0 then
                (device_Answer secret_2 other_3).bind fun y38 =>
                  (digest_Mac secret_2 other_3).bind fun y43 =>
                    some (y38 == y43)
              else
                (device_Devices_Challenge y28.2 user_0 id_1 now_5).bind fun y48 =>
                  (device_Answer other_3 y48.1).bind fun y57 =>
                    (device_Devices_Prove y48.2.2 user_0 id_1 y57 now_5).bind fun y62 =>
                      (digest_Mac secret_2 y48.1).bind fun y71 =>
                        (digest_Mac other_3 y48.1).bind fun y76 =>
                          (device_Devices_Challenge y62.2 user_0 id_1 now_5).bind fun y81 =>
                            (device_Answer secret_2 y81.1).bind fun y90 =>
                              (device_Devices_Prove y81.2.2 user_0 id_1 y90 now_5).bind fun y95 =>
                                some (((((y48.2.1 == 0) && ((y62.1 == 0) == (y71 == y76))) && ((y71 == y76) || (y62.1 == 11))) && (y81.2.1 == 0)) && (y95.1 == 0))
def clock_limited (t_0 : Int) : Option (Int) :=
  some (gmin (gmax t_0 0) 1099511627776)
def clock_Add (t_0 : Int) (d_1 : Int) : Option (Int) :=
  (clock_limited t_0).bind fun y1 =>
    (clock_limited d_1).bind fun y5 =>
      (clock_limited (IntKind.i64.wrap (y1 + y5))).bind fun y9 =>
        some (y9)
def law37_DeviceLasts (ops_0 : List law37_Op) (o_1 : law37_Op) (user_2 : Str) (id_3 : Str) (t_4 : Int) : Option (Bool) :=
  (law37_live).bind fun y8 =>
    if !y8 then
      some (false)
    else
      (law37_long ops_0 20).bind fun y14 =>
        Option.bind (if y14 then
            some true
          else
            (law37_long ([o_1] : List law37_Op) 1).bind fun y32 =>
              some y32
          ) fun z21 =>
          Option.bind (if z21 then
              some true
            else
              (ref02_Great ([user_2, id_3] : List Str) 2 300).bind fun y50 =>
                some y50
            ) fun z39 =>
            if z39 then
              some (true)
            else
              (law37_run ops_0).bind fun y56 =>
                (device_Devices_Trusted y56.1 user_2 id_3 t_4).bind fun y66 =>
                  (device_Devices_Trust y56.1 o_1.User o_1.ID o_1.Secret o_1.Until o_1.Now).bind fun y71 =>
                    Option.bind (if y66 then
                        (device_Devices_Trusted y71.2 user_2 id_3 t_4).bind fun y88 =>
                          some (!y88)
                      else
                        some false
                      ) fun z82 =>
                      if z82 then
                        some (false)
                      else
                        Option.bind (if y71.1 != 0 then
                            some true
                          else
                            (clock_Add t_4 0).bind fun y103 =>
                              (clock_Add o_1.Until 0).bind fun y108 =>
                                some (decide (y103 ≥ y108))
                          ) fun z98 =>
                          Option.bind (if z98 then
                              some true
                            else
                              (device_Devices_Trusted y71.2 o_1.User o_1.ID t_4).bind fun y120 =>
                                some y120
                            ) fun z115 =>
                            some (z115)
end Go.KW.S
