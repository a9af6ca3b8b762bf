/- Own work: a part of the proofs of this seat. -/
import Derived.Test.YtnhlljejhjbepaaDoorKwNext
set_option linter.unusedVariables false
namespace Go.KW.S
open Go Go.KW
def tab_digest_digits : List Int := [48, 49, 50, 51, 52, 53, 54, 55, 56, 57, 97, 98, 99, 100, 101, 102]
structure law23_Try where
  Secret : Str
  Code : Str
  Last : Int
  Look : Int
  Now : Int
  K : Int
  Near : Bool
def law23_Try.c : Cdc law23_Try := Cdc.flat 7 (fun x => [str x.Secret, str x.Code, .int .i64 x.Last, .int .i64 x.Look, .int .i64 x.Now, .int .i64 x.K, .bool x.Near]) (fun _ => rfl) (fun _ u h => by simp at h; rcases h with rfl | rfl | rfl | rfl | rfl | rfl | rfl <;> rfl)
def law23_Try.eqb (x y : law23_Try) : Bool := (x.Secret == y.Secret) && (x.Code == y.Code) && (x.Last == y.Last) && (x.Look == y.Look) && (x.Now == y.Now) && (x.K == y.K) && (x.Near == y.Near)
def fold_Trim (s_0 : Str) : Option (Str) :=
  (lib_Trim s_0 ([32])).bind fun y1 =>
    some (y1)
def fold_Clean_L1 : Nat → Str → Str → Nat → Option (Bool)
  | 0, _, _, _ => none
  | n + 1, s_0, t_6s, t_6p =>
    if decide (t_6p < t_6s.length) then
      if (decide (((sdec t_6s t_6p).1) < 32)) || (decide (((sdec t_6s t_6p).1) > 126)) then
        some (false)
      else
        (fold_Clean_L1 n) s_0 t_6s (t_6p + (sdec t_6s t_6p).2)
    else
      Option.bind (if (!(s_0 == ([]))) && (decide ((s_0.length : Int) ≤ 256)) then
          (fold_Trim s_0).bind fun y33 =>
            some (y33 == s_0)
        else
          some false
        ) fun z28 =>
        some (z28)
def fold_Clean (s_0 : Str) : Option (Bool) :=
  fold_Clean_L1 fuel s_0 s_0 0
def codec_Int (n_0 : Int) : Option (Str) :=
  (lib_Itoa n_0).bind fun y1 =>
    some (y1)
def digest_Sum_L1 : Nat → Str → Int → Int → Int → Option (Int)
  | 0, _, _, _, _ => none
  | n + 1, s_0, h_3, t_6, t_7 =>
    if decide (t_7 < t_6) then
      chk (inb t_7 s_0.length) (
        (digest_Sum_L1 n) s_0 (IntKind.u64.wrap ((bXor .u64 h_3 (IntKind.u64.wrap (byteAt s_0 t_7))) * 1099511628211)) t_6 (IntKind.i64.wrap (t_7 + 1)))
    else
      some (bXor .u64 (IntKind.u64.wrap ((bXor .u64 (IntKind.u64.wrap ((bXor .u64 h_3 (bShr .u64 h_3 33)) * 18397679294719823053)) (bShr .u64 (IntKind.u64.wrap ((bXor .u64 h_3 (bShr .u64 h_3 33)) * 18397679294719823053)) 33)) * 14181476777654086739)) (bShr .u64 (IntKind.u64.wrap ((bXor .u64 (IntKind.u64.wrap ((bXor .u64 h_3 (bShr .u64 h_3 33)) * 18397679294719823053)) (bShr .u64 (IntKind.u64.wrap ((bXor .u64 h_3 (bShr .u64 h_3 33)) * 18397679294719823053)) 33)) * 14181476777654086739)) 33))
def digest_Sum (s_0 : Str) : Option (Int) :=
  digest_Sum_L1 fuel s_0 14695981039346656037 (s_0.length : Int) 0
def digest_Hex_L1 : Nat → Int → List Int → Int → Option (Str)
  | 0, _, _, _ => none
  | n + 1, n_0, b_3, t_5 =>
    if decide (t_5 < 16) then
      chk (decide (0 ≤ IntKind.i64.wrap (4 * t_5))) (
        chk (inb (bAnd .u64 (bShr .u64 n_0 (IntKind.i64.wrap (4 * t_5))) 15) 16) (
          (idx tab_digest_digits (bAnd .u64 (bShr .u64 n_0 (IntKind.i64.wrap (4 * t_5))) 15)).bind fun y11 =>
            chk (inb (IntKind.i64.wrap (15 - t_5)) 16) (
              chk (inb (IntKind.i64.wrap (15 - t_5)) b_3.length) (
                (digest_Hex_L1 n) n_0 (setAt b_3 (IntKind.i64.wrap (15 - t_5)) y11) (IntKind.i64.wrap (t_5 + 1))))))
    else
      chk (b_3.length == 16) (
        some (bytesStr b_3))
def digest_Hex (n_0 : Int) : Option (Str) :=
  digest_Hex_L1 fuel n_0 ([0, 0, 0, 0, 0, 0, 0, 0, 0, 0, 0, 0, 0, 0, 0, 0]) 0
def digest_Text (s_0 : Str) : Option (Str) :=
  (digest_Sum s_0).bind fun y1 =>
    (digest_Hex y1).bind fun y5 =>
      some (y5)
def digest_Mac (key_0 : Str) (s_1 : Str) : Option (Str) :=
  (lib_Itoa (key_0.length : Int)).bind fun y1 =>
    chk (fitS y1 ([58])) (
      chk (fitS (y1 ++ ([58])) key_0) (
        chk (fitS ((y1 ++ ([58])) ++ key_0) s_1) (
          (digest_Text (((y1 ++ ([58])) ++ key_0) ++ s_1)).bind fun y8 =>
            chk (fitS ((y1 ++ ([58])) ++ key_0) y8) (
              (digest_Text (((y1 ++ ([58])) ++ key_0) ++ y8)).bind fun y13 =>
                some (y13)))))
def otp_code_L1 : Nat → Int → List Int → Int → Option (Str)
  | 0, _, _, _ => none
  | n + 1, n_5, out_6, t_15 =>
    if decide (t_15 < 6) then
      chk (inb (IntKind.i64.wrap (5 - t_15)) 6) (
        chk (inb (IntKind.i64.wrap (5 - t_15)) out_6.length) (
          (otp_code_L1 n) (IntKind.u64.wrap (n_5.tdiv 10)) (setAt out_6 (IntKind.i64.wrap (5 - t_15)) (IntKind.u8.wrap (IntKind.u64.wrap (48 + (Int.tmod n_5 10))))) (IntKind.i64.wrap (t_15 + 1))))
    else
      chk (out_6.length == 6) (
        some (bytesStr out_6))
def otp_code (secret_0 : Str) (counter_1 : Int) : Option (Str) :=
  (codec_Int counter_1).bind fun y1 =>
    (digest_Mac secret_0 y1).bind fun y5 =>
      (digest_Sum y5).bind fun y9 =>
        otp_code_L1 fuel (Int.tmod y9 1000000) ([0, 0, 0, 0, 0, 0]) 0
def otp_Code (secret_0 : Str) (counter_1 : Int) : Option (Str × Int) :=
  (fold_Clean secret_0).bind fun y1 =>
    if !y1 then
      some ([], 4)
    else
      if (decide (counter_1 < 0)) || (decide (counter_1 > 36650387592)) then
        some ([], 27)
      else
        (otp_code secret_0 counter_1).bind fun y14 =>
          some (y14, 0)
def otp_six_1 (c_0 : Int) : Option (Bool) :=
  some ((decide (c_0 < 48)) || (decide (c_0 > 57)))
def slices_IndexFunc_byte_byte__six_1_L1 : Nat → List Int → Int → Int → Option (Int)
  | 0, _, _, _ => none
  | n + 1, s_0, t_7, t_8 =>
    if decide (t_8 < t_7) then
      (idx s_0 t_8).bind fun y4 =>
        (otp_six_1 y4).bind fun y10 =>
          if y10 then
            some (t_8)
          else
            (slices_IndexFunc_byte_byte__six_1_L1 n) s_0 t_7 (IntKind.i64.wrap (t_8 + 1))
    else
      some ((-1))
def slices_IndexFunc_byte_byte__six_1 (s_0 : List Int) : Option (Int) :=
  slices_IndexFunc_byte_byte__six_1_L1 fuel s_0 (s_0.length : Int) 0
def slices_ContainsFunc_byte_byte__six_1 (s_0 : List Int) : Option (Bool) :=
  (slices_IndexFunc_byte_byte__six_1 s_0).bind fun y3 =>
    some (decide (y3 ≥ 0))
def otp_six (s_0 : Str) : Option (Bool) :=
  Option.bind (if (s_0.length : Int) == 6 then
      chk (fitS s_0 []) (
        (slices_ContainsFunc_byte_byte__six_1 (strBytes s_0)).bind fun y19 =>
          some (!y19))
    else
      some false
    ) fun z3 =>
    some (z3)
def otp_form (secret_0 : Str) (s_1 : Str) : Option (Int) :=
  (fold_Clean secret_0).bind fun y1 =>
    Option.bind (if !y1 then
        some true
      else
        (otp_six s_1).bind fun y12 =>
          some (!y12)
      ) fun z7 =>
      if z7 then
        some (4)
      else
        some (0)
def otp_Verify_1 (c_0 : Int) (c1 : Str) (c2 : Str) : Option (Bool) :=
  (otp_code c1 c_0).bind fun y7 =>
    some (y7 == c2)
def otp_search__Verify_1_L1 : Nat → Int → Str → Str → Int → Option (Int × Int)
  | 0, _, _, _, _ => none
  | n + 1, to_1, is_2_c0, is_2_c1, c_8 =>
    if decide (c_8 ≤ (gmin to_1 36650387592)) then
      (otp_Verify_1 c_8 is_2_c0 is_2_c1).bind fun y6 =>
        if y6 then
          some (c_8, 0)
        else
          (otp_search__Verify_1_L1 n) to_1 is_2_c0 is_2_c1 (IntKind.i64.wrap (c_8 + 1))
    else
      some (0, 11)
def otp_search__Verify_1 (from_0 : Int) (to_1 : Int) (c2_0 : Str) (c2_1 : Str) : Option (Int × Int) :=
  otp_search__Verify_1_L1 fuel to_1 c2_0 c2_1 (gmax from_0 0)
def otp_Verify (secret_0 : Str) (last_1 : Int) (look_2 : Int) (s_3 : Str) : Option (Int × Int) :=
  (otp_form secret_0 s_3).bind fun y15 =>
    if y15 != 0 then
      some (0, y15)
    else
      if (((decide (last_1 < (-1))) || (decide (last_1 > 36650387592))) || (decide (look_2 < 0))) || (decide (look_2 > 16)) then
        some (0, 27)
      else
        (otp_search__Verify_1 (IntKind.i64.wrap (last_1 + 1)) (IntKind.i64.wrap (last_1 + look_2)) secret_0 s_3).bind fun y42 =>
          some (y42.1, y42.2)
def clock_limited (t_0 : Int) : Option (Int) :=
  some (gmin (gmax t_0 0) 1099511627776)
def clock_Add (t_0 : Int) (d_1 : Int) : Option (Int) :=
  (clock_limited t_0).bind fun y1 =>
    (clock_limited d_1).bind fun y5 =>
      (clock_limited (IntKind.i64.wrap (y1 + y5))).bind fun y9 =>
        some (y9)
def otp_Counter (now_0 : Int) : Option (Int) :=
  (clock_Add now_0 0).bind fun y1 =>
    some (IntKind.i64.wrap (y1.tdiv 30))
def otp_VerifyAt_1 (c_0 : Int) (c1 : Str) (c2 : Str) : Option (Bool) :=
  (otp_code c1 c_0).bind fun y7 =>
    some (y7 == c2)
def otp_search__VerifyAt_1_L1 : Nat → Int → Str → Str → Int → Option (Int × Int)
  | 0, _, _, _, _ => none
  | n + 1, to_1, is_2_c0, is_2_c1, c_8 =>
    if decide (c_8 ≤ (gmin to_1 36650387592)) then
      (otp_VerifyAt_1 c_8 is_2_c0 is_2_c1).bind fun y6 =>
        if y6 then
          some (c_8, 0)
        else
          (otp_search__VerifyAt_1_L1 n) to_1 is_2_c0 is_2_c1 (IntKind.i64.wrap (c_8 + 1))
    else
      some (0, 11)
def otp_search__VerifyAt_1 (from_0 : Int) (to_1 : Int) (c2_0 : Str) (c2_1 : Str) : Option (Int × Int) :=
  otp_search__VerifyAt_1_L1 fuel to_1 c2_0 c2_1 (gmax from_0 0)
def otp_VerifyAt (secret_0 : Str) (last_1 : Int) (now_2 : Int) (skew_3 : Int) (s_4 : Str) : Option (Int × Int) :=
  (otp_form secret_0 s_4).bind fun y15 =>
    if y15 != 0 then
      some (0, y15)
    else
      if (decide (last_1 < (-1))) || (decide (last_1 > 36650387592)) then
        some (0, 27)
      else
        (otp_Counter now_2).bind fun y28 =>
          (otp_Counter now_2).bind fun y32 =>
            (otp_search__VerifyAt_1 (gmax (IntKind.i64.wrap (last_1 + 1)) (IntKind.i64.wrap (y28 - (IntKind.i64.wrap ((gmin (gmax skew_3 0) 600).tdiv 30))))) (IntKind.i64.wrap (y32 + (IntKind.i64.wrap ((gmin (gmax skew_3 0) 600).tdiv 30)))) secret_0 s_4).bind fun y36 =>
              some (y36.1, y36.2)
def slices_Index_string_string_L1 : Nat → List Str → Str → Int → Int → Option (Int)
  | 0, _, _, _, _ => none
  | n + 1, s_0, v_1, t_7, t_8 =>
    if decide (t_8 < t_7) then
      (idx s_0 t_8).bind fun y4 =>
        if v_1 == y4 then
          some (t_8)
        else
          (slices_Index_string_string_L1 n) s_0 v_1 t_7 (IntKind.i64.wrap (t_8 + 1))
    else
      some ((-1))
def slices_Index_string_string (s_0 : List Str) (v_1 : Str) : Option (Int) :=
  slices_Index_string_string_L1 fuel s_0 v_1 (s_0.length : Int) 0
def otp_Redeem (codes_0 : List Str) (s_1 : Str) : Option ((List Str) × Int) :=
  (slices_Index_string_string codes_0 s_1).bind fun y5 =>
    if decide (y5 < 0) then
      some (([] : List Str), 6)
    else
      (lib_Clone codes_0).bind fun y14 =>
        (lib_Delete y14 y5 (IntKind.i64.wrap (y5 + 1))).bind fun y28 =>
          some (y28, 0)
def otp_Recovery_L1 : Nat → Str → List Str → Int → Int → Option ((List Str) × Int)
  | 0, _, _, _, _ => none
  | n + 1, secret_0, out_6, t_19, t_20 =>
    if decide (t_20 < t_19) then
      (codec_Int t_20).bind fun y19 =>
        chk (fitS ([114, 101, 99, 111, 118, 101, 114, 121]) y19) (
          (digest_Mac secret_0 (([114, 101, 99, 111, 118, 101, 114, 121]) ++ y19)).bind fun y24 =>
            chk (inc 0 10 y24.length) (
              chk (fitL out_6.length ([cut y24 0 10] : List Str).length) (
                (otp_Recovery_L1 n) secret_0 (out_6 ++ ([cut y24 0 10] : List Str)) t_19 (IntKind.i64.wrap (t_20 + 1)))))
    else
      some (out_6, 0)
def otp_Recovery (secret_0 : Str) (n_1 : Int) : Option ((List Str) × Int) :=
  (fold_Clean secret_0).bind fun y3 =>
    if !y3 then
      some (([] : List Str), 4)
    else
      if (decide (n_1 < 1)) || (decide (n_1 > 16)) then
        some (([] : List Str), 27)
      else
        otp_Recovery_L1 fuel secret_0 ([] : List Str) n_1 0
def ref07_Lists_L1 : Nat → List Str → List Str → Int → Option (Bool)
  | 0, _, _, _ => none
  | n + 1, a_0, b_1, i_5 =>
    if decide (i_5 < (a_0.length : Int)) then
      (idx a_0 i_5).bind fun y9 =>
        (idx b_1 i_5).bind fun y15 =>
          if !(y9 == y15) then
            some (false)
          else
            (ref07_Lists_L1 n) a_0 b_1 (IntKind.i64.wrap (i_5 + 1))
    else
      some (true)
def ref07_Lists (a_0 : List Str) (b_1 : List Str) : Option (Bool) :=
  if (a_0.length : Int) != (b_1.length : Int) then
    some (false)
  else
    ref07_Lists_L1 fuel a_0 b_1 0
def law23_alive : Option (Bool) :=
  (otp_Code ([115, 101, 99, 114, 101, 116]) 7).bind fun y1 =>
    (otp_Verify ([115, 101, 99, 114, 101, 116]) 6 1 y1.1).bind fun y5 =>
      (otp_Verify ([115, 101, 99, 114, 101, 116]) 7 0 y1.1).bind fun y9 =>
        (otp_VerifyAt ([115, 101, 99, 114, 101, 116]) 6 210 0 y1.1).bind fun y13 =>
          (otp_Redeem ([[97], [98], [97]] : List Str) ([97])).bind fun y21 =>
            (otp_Redeem y21.1 ([99])).bind fun y27 =>
              (otp_Code ([]) 1).bind fun y33 =>
                (otp_Recovery ([115, 101, 99, 114, 101, 116]) 2).bind fun y37 =>
                  Option.bind (if (((((((y1.2 == 0) && ((y1.1.length : Int) == 6)) && (y5.2 == 0)) && (y5.1 == 7)) && (y9.2 == 11)) && (y13.2 == 0)) && (y13.1 == 7)) && (y21.2 == 0) then
                      (ref07_Lists y21.1 ([[98], [97]] : List Str)).bind fun y103 =>
                        some y103
                    else
                      some false
                    ) fun z94 =>
                    Option.bind (if (((z94 && (y27.2 == 6)) && (y33.2 == 4)) && (y37.2 == 0)) && ((y37.1.length : Int) == 2) then
                        (idx y37.1 0).bind fun y142 =>
                          some ((y142.length : Int) == 10)
                      else
                        some false
                      ) fun z137 =>
                      Option.bind (if z137 then
                          (otp_Counter 59).bind fun y155 =>
                            some (y155 == 1)
                        else
                          some false
                        ) fun z150 =>
                        some (z150)
def ref01_Clean_L1 : Nat → Str → Int → Option (Bool)
  | 0, _, _ => none
  | n + 1, s_0, i_3 =>
    if decide (i_3 < (s_0.length : Int)) then
      chk (inb i_3 s_0.length) (
        Option.bind (if decide ((byteAt s_0 i_3) < 32) then
            some true
          else
            chk (inb i_3 s_0.length) (
              some (decide ((byteAt s_0 i_3) > 126)))
          ) fun z29 =>
          if z29 then
            some (false)
          else
            (ref01_Clean_L1 n) s_0 (IntKind.i64.wrap (i_3 + 1)))
    else
      some (true)
def ref01_Clean (s_0 : Str) : Option (Bool) :=
  Option.bind (if (decide ((s_0.length : Int) < 1)) || (decide ((s_0.length : Int) > 256)) then
      some true
    else
      chk (inb 0 s_0.length) (
        some ((byteAt s_0 0) == 32))
    ) fun z10 =>
    Option.bind (if z10 then
        some true
      else
        chk (inb (IntKind.i64.wrap ((s_0.length : Int) - 1)) s_0.length) (
          some ((byteAt s_0 (IntKind.i64.wrap ((s_0.length : Int) - 1))) == 32))
      ) fun z18 =>
      if z18 then
        some (false)
      else
        ref01_Clean_L1 fuel s_0 0
def ref02_Int_B2 (r0 : Int → Str → Int → Option (Str)) (n_0 : Int) (out_3 : Str) (m_4 : Int) (d_5 : Int) : Option (Str) :=
  chk (fitS (bytesStr ([IntKind.u8.wrap (IntKind.i64.wrap (48 + d_5))] : List Int)) out_3) (
    r0 n_0 ((bytesStr ([IntKind.u8.wrap (IntKind.i64.wrap (48 + d_5))] : List Int)) ++ out_3) (IntKind.i64.wrap (m_4.tdiv 10)))
def ref02_Int_L1 : Nat → Int → Str → Int → Option (Str)
  | 0, _, _, _ => none
  | n + 1, n_0, out_3, m_4 =>
    if m_4 != 0 then
      if decide ((Int.tmod m_4 10) < 0) then
        ref02_Int_B2 (ref02_Int_L1 n) n_0 out_3 m_4 (IntKind.i64.wrap (0 - (Int.tmod m_4 10)))
      else
        ref02_Int_B2 (ref02_Int_L1 n) n_0 out_3 m_4 (Int.tmod m_4 10)
    else
      if decide (n_0 < 0) then
        chk (fitS ([45]) out_3) (
          some (([45]) ++ out_3))
      else
        some (out_3)
def ref02_Int (n_0 : Int) : Option (Str) :=
  if n_0 == 0 then
    some ([48])
  else
    ref02_Int_L1 fuel n_0 ([]) n_0
def ref03_decimal : Nat → Int → Option (Str)
  | 0, _ => none
  | n + 1, n_0 =>
    if decide (n_0 < 10) then
      chk (inc n_0 (IntKind.i64.wrap (n_0 + 1)) ([48, 49, 50, 51, 52, 53, 54, 55, 56, 57]).length) (
        some (cut ([48, 49, 50, 51, 52, 53, 54, 55, 56, 57]) n_0 (IntKind.i64.wrap (n_0 + 1))))
    else
      (ref03_decimal n (IntKind.i64.wrap (n_0.tdiv 10))).bind fun y3 =>
        (ref03_decimal n (Int.tmod n_0 10)).bind fun y7 =>
          chk (fitS y3 y7) (
            some (y3 ++ y7))
def ref03_Sum_L1 : Nat → Str → Int → Int → Option (Int)
  | 0, _, _, _ => none
  | n + 1, s_0, h_3, i_4 =>
    if decide (i_4 < (s_0.length : Int)) then
      chk (inb i_4 s_0.length) (
        (ref03_Sum_L1 n) s_0 (IntKind.u64.wrap ((bXor .u64 h_3 (IntKind.u64.wrap (byteAt s_0 i_4))) * 1099511628211)) (IntKind.i64.wrap (i_4 + 1)))
    else
      some (bXor .u64 (IntKind.u64.wrap ((bXor .u64 (IntKind.u64.wrap ((bXor .u64 h_3 (bShr .u64 h_3 33)) * 18397679294719823053)) (bShr .u64 (IntKind.u64.wrap ((bXor .u64 h_3 (bShr .u64 h_3 33)) * 18397679294719823053)) 33)) * 14181476777654086739)) (bShr .u64 (IntKind.u64.wrap ((bXor .u64 (IntKind.u64.wrap ((bXor .u64 h_3 (bShr .u64 h_3 33)) * 18397679294719823053)) (bShr .u64 (IntKind.u64.wrap ((bXor .u64 h_3 (bShr .u64 h_3 33)) * 18397679294719823053)) 33)) * 14181476777654086739)) 33))
def ref03_Sum (s_0 : Str) : Option (Int) :=
  ref03_Sum_L1 fuel s_0 14695981039346656037 0
def ref03_Hex_L1 : Nat → Int → Str → Int → Option (Str)
  | 0, _, _, _ => none
  | n + 1, n_0, s_3, i_4 =>
    if decide (i_4 < 16) then
      chk (inc (Int.tmod n_0 16) (IntKind.u64.wrap ((Int.tmod n_0 16) + 1)) ([48, 49, 50, 51, 52, 53, 54, 55, 56, 57, 97, 98, 99, 100, 101, 102]).length) (
        chk (fitS (cut ([48, 49, 50, 51, 52, 53, 54, 55, 56, 57, 97, 98, 99, 100, 101, 102]) (Int.tmod n_0 16) (IntKind.u64.wrap ((Int.tmod n_0 16) + 1))) s_3) (
          (ref03_Hex_L1 n) (IntKind.u64.wrap (n_0.tdiv 16)) ((cut ([48, 49, 50, 51, 52, 53, 54, 55, 56, 57, 97, 98, 99, 100, 101, 102]) (Int.tmod n_0 16) (IntKind.u64.wrap ((Int.tmod n_0 16) + 1))) ++ s_3) (IntKind.i64.wrap (i_4 + 1))))
    else
      some (s_3)
def ref03_Hex (n_0 : Int) : Option (Str) :=
  ref03_Hex_L1 fuel n_0 ([]) 0
def ref03_Text (s_0 : Str) : Option (Str) :=
  (ref03_Sum s_0).bind fun y1 =>
    (ref03_Hex y1).bind fun y5 =>
      some (y5)
def ref03_Mac (key_0 : Str) (s_1 : Str) : Option (Str) :=
  (ref03_decimal fuel (key_0.length : Int)).bind fun y1 =>
    chk (fitS y1 ([58])) (
      chk (fitS (y1 ++ ([58])) key_0) (
        chk (fitS ((y1 ++ ([58])) ++ key_0) s_1) (
          (ref03_Text (((y1 ++ ([58])) ++ key_0) ++ s_1)).bind fun y8 =>
            chk (fitS ((y1 ++ ([58])) ++ key_0) y8) (
              (ref03_Text (((y1 ++ ([58])) ++ key_0) ++ y8)).bind fun y13 =>
                some (y13)))))
def ref23_six_L1 : Nat → Str → Option (Str)
  | 0, _ => none
  | n + 1, s_3 =>
    if decide ((s_3.length : Int) < 6) then
      chk (fitS ([48]) s_3) (
        (ref23_six_L1 n) (([48]) ++ s_3))
    else
      some (s_3)
def ref23_six (n_0 : Int) : Option (Str) :=
  (ref02_Int n_0).bind fun y1 =>
    ref23_six_L1 fuel y1
def ref23_Code (secret_0 : Str) (counter_1 : Int) : Option (Str × Int) :=
  (ref01_Clean secret_0).bind fun y1 =>
    if !y1 then
      some ([], 4)
    else
      if (decide (counter_1 < 0)) || (decide (counter_1 > 36650387592)) then
        some ([], 27)
      else
        (ref02_Int counter_1).bind fun y14 =>
          (ref03_Mac secret_0 y14).bind fun y18 =>
            (ref03_Sum y18).bind fun y22 =>
              (ref23_six (IntKind.i64.wrap (Int.tmod y22 1000000))).bind fun y26 =>
                some (y26, 0)
def ref04_Limit (t_0 : Int) : Option (Int) :=
  some (gmax 0 (gmin t_0 1099511627776))
def ref23_Counter (now_0 : Int) : Option (Int) :=
  (ref04_Limit now_0).bind fun y1 =>
    some (IntKind.i64.wrap (y1.tdiv 30))
def law23_OtpCodes (secret_0 : Str) (counter_1 : Int) : Option (Bool) :=
  if decide ((secret_0.length : Int) > 300) then
    (law23_alive).bind fun y2 =>
      some (y2)
  else
    (otp_Code secret_0 counter_1).bind fun y6 =>
      (ref23_Code secret_0 counter_1).bind fun y10 =>
        Option.bind (if (y6.1 == y10.1) && (y6.2 == y10.2) then
            (otp_Counter counter_1).bind fun y28 =>
              (ref23_Counter counter_1).bind fun y32 =>
                some (y28 == y32)
          else
            some false
          ) fun z23 =>
          Option.bind (if z23 then
              (law23_alive).bind fun y43 =>
                some y43
            else
              some false
            ) fun z38 =>
            some (z38)
def law23_fits (x_0 : law23_Try) : Option (Bool) :=
  some ((decide ((x_0.Secret.length : Int) ≤ 300)) && (decide ((x_0.Code.length : Int) ≤ 300)))
def law23_typed (x_0 : law23_Try) : Option (Str) :=
  if x_0.Near then
    (ref23_Code x_0.Secret (IntKind.i64.wrap ((gmax 0 (gmin x_0.Last 1099511627776)) + (Int.tmod x_0.K 20)))).bind fun y9 =>
      some (y9.1)
  else
    some (x_0.Code)
def ref23_possible_L1 : Nat → Str → Int → Option (Bool)
  | 0, _, _ => none
  | n + 1, code_0, i_3 =>
    if decide (i_3 < (code_0.length : Int)) then
      chk (inb i_3 code_0.length) (
        Option.bind (if decide ((byteAt code_0 i_3) < 48) then
            some true
          else
            chk (inb i_3 code_0.length) (
              some (decide ((byteAt code_0 i_3) > 57)))
          ) fun z5 =>
          if z5 then
            some (false)
          else
            (ref23_possible_L1 n) code_0 (IntKind.i64.wrap (i_3 + 1)))
    else
      some ((code_0.length : Int) == 6)
def ref23_possible (code_0 : Str) : Option (Bool) :=
  ref23_possible_L1 fuel code_0 0
def ref23_first_L1 : Nat → Str → Int → Str → Int → Option (Int × Int)
  | 0, _, _, _, _ => none
  | n + 1, secret_0, to_2, code_3, c_10 =>
    if decide (c_10 ≤ to_2) then
      (ref23_Code secret_0 c_10).bind fun y2 =>
        if (y2.2 == 0) && (y2.1 == code_3) then
          some (c_10, 0)
        else
          (ref23_first_L1 n) secret_0 to_2 code_3 (IntKind.i64.wrap (c_10 + 1))
    else
      some (0, 11)
def ref23_first (secret_0 : Str) (from_1 : Int) (to_2 : Int) (code_3 : Str) : Option (Int × Int) :=
  ref23_first_L1 fuel secret_0 to_2 code_3 from_1
def ref23_Verify (secret_0 : Str) (last_1 : Int) (look_2 : Int) (code_3 : Str) : Option (Int × Int) :=
  (ref01_Clean secret_0).bind fun y1 =>
    Option.bind (if !y1 then
        some true
      else
        (ref23_possible code_3).bind fun y12 =>
          some (!y12)
      ) fun z7 =>
      if z7 then
        some (0, 4)
      else
        if (((decide (last_1 < (-1))) || (decide (last_1 > 36650387592))) || (decide (look_2 < 0))) || (decide (look_2 > 16)) then
          some (0, 27)
        else
          (ref23_first secret_0 (IntKind.i64.wrap (last_1 + 1)) (gmin (IntKind.i64.wrap (last_1 + look_2)) 36650387592) code_3).bind fun y39 =>
            some (y39.1, y39.2)
def ref23_VerifyAt (secret_0 : Str) (last_1 : Int) (now_2 : Int) (skew_3 : Int) (code_4 : Str) : Option (Int × Int) :=
  (ref01_Clean secret_0).bind fun y1 =>
    Option.bind (if !y1 then
        some true
      else
        (ref23_possible code_4).bind fun y12 =>
          some (!y12)
      ) fun z7 =>
      if z7 then
        some (0, 4)
      else
        if (decide (last_1 < (-1))) || (decide (last_1 > 36650387592)) then
          some (0, 27)
        else
          (ref23_Counter now_2).bind fun y25 =>
            (ref23_Counter now_2).bind fun y29 =>
              (ref23_first secret_0 (gmax (IntKind.i64.wrap (last_1 + 1)) (IntKind.i64.wrap (y25 - (IntKind.i64.wrap ((gmax 0 (gmin skew_3 600)).tdiv 30))))) (gmin (IntKind.i64.wrap (y29 + (IntKind.i64.wrap ((gmax 0 (gmin skew_3 600)).tdiv 30)))) 36650387592) code_4).bind fun y33 =>
                some (y33.1, y33.2)
def law23_OtpVerifies (x_0 : law23_Try) : Option (Bool) :=
  (law23_fits x_0).bind fun y8 =>
    if !y8 then
      (law23_alive).bind fun y13 =>
        some (y13)
    else
      (law23_typed x_0).bind fun y17 =>
        (otp_Verify x_0.Secret x_0.Last x_0.Look y17).bind fun y21 =>
          (ref23_Verify x_0.Secret x_0.Last x_0.Look y17).bind fun y25 =>
            (otp_VerifyAt x_0.Secret x_0.Last x_0.Now x_0.Look y17).bind fun y29 =>
              (ref23_VerifyAt x_0.Secret x_0.Last x_0.Now x_0.Look y17).bind fun y33 =>
                Option.bind (if (((y21.1 == y25.1) && (y21.2 == y25.2)) && (y29.1 == y33.1)) && (y29.2 == y33.2) then
                    (law23_alive).bind fun y65 =>
                      some y65
                  else
                    some false
                  ) fun z60 =>
                  some (z60)
def law23_short_L1 : Nat → List Str → Int → Option (Bool)
  | 0, _, _ => none
  | n + 1, l_0, i_3 =>
    if decide (i_3 < (l_0.length : Int)) then
      (idx l_0 i_3).bind fun y4 =>
        if decide ((y4.length : Int) > 100) then
          some (false)
        else
          (law23_short_L1 n) l_0 (IntKind.i64.wrap (i_3 + 1))
    else
      some (decide ((l_0.length : Int) ≤ 20))
def law23_short (l_0 : List Str) : Option (Bool) :=
  law23_short_L1 fuel l_0 0
def ref23_Recovery_L1 : Nat → Str → Int → List Str → Int → Option ((List Str) × Int)
  | 0, _, _, _, _ => none
  | n + 1, secret_0, n_1, out_6, i_7 =>
    if decide (i_7 < n_1) then
      (ref02_Int i_7).bind fun y19 =>
        chk (fitS ([114, 101, 99, 111, 118, 101, 114, 121]) y19) (
          (ref03_Mac secret_0 (([114, 101, 99, 111, 118, 101, 114, 121]) ++ y19)).bind fun y24 =>
            chk (inc 0 (gmin (y24.length : Int) 10) y24.length) (
              chk (fitL out_6.length ([cut y24 0 (gmin (y24.length : Int) 10)] : List Str).length) (
                (ref23_Recovery_L1 n) secret_0 n_1 (out_6 ++ ([cut y24 0 (gmin (y24.length : Int) 10)] : List Str)) (IntKind.i64.wrap (i_7 + 1)))))
    else
      some (out_6, 0)
def ref23_Recovery (secret_0 : Str) (n_1 : Int) : Option ((List Str) × Int) :=
  (ref01_Clean secret_0).bind fun y3 =>
    if !y3 then
      some (([] : List Str), 4)
    else
      if (decide (n_1 < 1)) || (decide (n_1 > 16)) then
        some (([] : List Str), 27)
      else
        ref23_Recovery_L1 fuel secret_0 n_1 ([] : List Str) 0
def ref23_Redeem_L1 : Nat → List Str → Str → Int → Option ((List Str) × Int)
  | 0, _, _, _ => none
  | n + 1, codes_0, code_1, i_6 =>
    if decide (i_6 < (codes_0.length : Int)) then
      (idx codes_0 i_6).bind fun y8 =>
        if y8 == code_1 then
          chk (inc 0 i_6 codes_0.length) (
            chk (fitL ([] : List Str).length (cut codes_0 0 i_6).length) (
              chk (inc (IntKind.i64.wrap (i_6 + 1)) codes_0.length codes_0.length) (
                chk (fitL (([] : List Str) ++ (cut codes_0 0 i_6)).length (cut codes_0 (IntKind.i64.wrap (i_6 + 1)) codes_0.length).length) (
                  some ((([] : List Str) ++ (cut codes_0 0 i_6)) ++ (cut codes_0 (IntKind.i64.wrap (i_6 + 1)) codes_0.length), 0)))))
        else
          (ref23_Redeem_L1 n) codes_0 code_1 (IntKind.i64.wrap (i_6 + 1))
    else
      some (([] : List Str), 6)
def ref23_Redeem (codes_0 : List Str) (code_1 : Str) : Option ((List Str) × Int) :=
  ref23_Redeem_L1 fuel codes_0 code_1 0
def law23_OtpRecovers_B1 (codes_2 : List Str) (a_7 : List Str) (e_8 : Int) (b_9 : List Str) (f_10 : Int) (code_11 : Str) : Option (Bool) :=
  (otp_Redeem codes_2 code_11).bind fun y38 =>
    (ref23_Redeem codes_2 code_11).bind fun y44 =>
      (ref07_Lists a_7 b_9).bind fun y50 =>
        Option.bind (if y50 && (e_8 == f_10) then
            (ref07_Lists y38.1 y44.1).bind fun y68 =>
              some y68
          else
            some false
          ) fun z63 =>
          Option.bind (if z63 && (y38.2 == y44.2) then
              (law23_alive).bind fun y86 =>
                some y86
            else
              some false
            ) fun z81 =>
            some (z81)
def law23_OtpRecovers (secret_0 : Str) (n_1 : Int) (codes_2 : List Str) : Option (Bool) :=
  Option.bind (if decide ((secret_0.length : Int) > 300) then
      some true
    else
      (law23_short codes_2).bind fun y10 =>
        some (!y10)
    ) fun z5 =>
    if z5 then
      (law23_alive).bind fun y15 =>
        some (y15)
    else
      (otp_Recovery secret_0 n_1).bind fun y19 =>
        (ref23_Recovery secret_0 n_1).bind fun y25 =>
          if decide ((codes_2.length : Int) > 0) then
            (idx codes_2 (IntKind.i64.wrap ((codes_2.length : Int) - 1))).bind fun y32 =>
              law23_OtpRecovers_B1 codes_2 y19.1 y19.2 y25.1 y25.2 y32
          else
            law23_OtpRecovers_B1 codes_2 y19.1 y19.2 y25.1 y25.2 ([])
def law23_OtpOnce_B2 : Option (Bool) :=
  (law23_alive).bind fun y130 =>
    some (y130)
def law23_OtpOnce_B1 (x_1_0 : Str) (x_1_1 : Str) (x_1_2 : Int) (x_1_3 : Int) (x_1_4 : Int) (x_1_5 : Int) (x_1_6 : Bool) (s_3 : Str) : Option (Bool) :=
  (otp_VerifyAt x_1_0 x_1_2 x_1_4 x_1_3 s_3).bind fun y70 =>
    if y70.2 == 0 then
      (otp_Code x_1_0 y70.1).bind fun y75 =>
        (otp_VerifyAt x_1_0 y70.1 x_1_4 x_1_3 s_3).bind fun y79 =>
          (otp_Counter x_1_4).bind fun y83 =>
            if (((((y75.2 != 0) || (!(y75.1 == s_3))) || (decide (y70.1 ≤ x_1_2))) || (decide ((IntKind.i64.wrap (y70.1 - y83)) > 20))) || (decide ((IntKind.i64.wrap (y70.1 - y83)) < (-20)))) || ((y79.2 == 0) && (decide (y79.1 ≤ y70.1))) then
              some (false)
            else
              law23_OtpOnce_B2
    else
      law23_OtpOnce_B2
def law23_OtpOnce (x_0 : law23_Try) : Option (Bool) :=
  (law23_fits x_0).bind fun y8 =>
    if !y8 then
      (law23_alive).bind fun y13 =>
        some (y13)
    else
      (law23_typed x_0).bind fun y17 =>
        (otp_Verify x_0.Secret x_0.Last x_0.Look y17).bind fun y21 =>
          if y21.2 == 0 then
            (otp_Code x_0.Secret y21.1).bind fun y26 =>
              (otp_Verify x_0.Secret y21.1 x_0.Look y17).bind fun y30 =>
                if ((((y26.2 != 0) || (!(y26.1 == y17))) || (decide (y21.1 ≤ x_0.Last))) || (decide (y21.1 > (IntKind.i64.wrap (x_0.Last + x_0.Look))))) || ((y30.2 == 0) && (decide (y30.1 ≤ y21.1))) then
                  some (false)
                else
                  law23_OtpOnce_B1 x_0.Secret x_0.Code x_0.Last x_0.Look x_0.Now x_0.K x_0.Near y17
          else
            law23_OtpOnce_B1 x_0.Secret x_0.Code x_0.Last x_0.Look x_0.Now x_0.K x_0.Near y17
def law23_OtpWindows (x_0 : law23_Try) : Option (Bool) :=
  (law23_fits x_0).bind fun y8 =>
    if ((!y8) || (decide (x_0.Look < 0))) || (decide (x_0.Look > 15)) then
      (law23_alive).bind fun y27 =>
        some (y27)
    else
      (law23_typed x_0).bind fun y31 =>
        (otp_Verify x_0.Secret x_0.Last x_0.Look y31).bind fun y35 =>
          (otp_Verify x_0.Secret x_0.Last (IntKind.i64.wrap (x_0.Look + 1)) y31).bind fun y39 =>
            if (y35.2 == 0) && ((y39.2 != 0) || (y35.1 != y39.1)) then
              some (false)
            else
              (otp_VerifyAt x_0.Secret x_0.Last x_0.Now (IntKind.i64.wrap (30 * x_0.Look)) y31).bind fun y58 =>
                (otp_VerifyAt x_0.Secret x_0.Last x_0.Now (IntKind.i64.wrap ((IntKind.i64.wrap (30 * x_0.Look)) + 30)) y31).bind fun y62 =>
                  if (y58.2 == 0) && (y62.2 != 0) then
                    some (false)
                  else
                    (otp_Counter x_0.Now).bind fun y76 =>
                      (otp_Code x_0.Secret y76).bind fun y80 =>
                        Option.bind (if (y80.2 != 0) || (decide (x_0.Last < (-1))) then
                            some true
                          else
                            (otp_Counter x_0.Now).bind fun y100 =>
                              some (decide (x_0.Last ≥ y100))
                          ) fun z95 =>
                          if z95 then
                            (law23_alive).bind fun y105 =>
                              some (y105)
                          else
                            (otp_VerifyAt x_0.Secret x_0.Last x_0.Now 0 y80.1).bind fun y109 =>
                              (clock_Add x_0.Now 30).bind fun y113 =>
                                Option.bind (if y109.2 == 0 then
                                    (clock_Add x_0.Now 0).bind fun y126 =>
                                      Option.bind (if decide ((IntKind.i64.wrap (y113 - y126)) < 30) then
                                          some true
                                        else
                                          (otp_Counter y113).bind fun y137 =>
                                            (otp_Counter x_0.Now).bind fun y141 =>
                                              some (y137 == (IntKind.i64.wrap (y141 + 1)))
                                        ) fun z132 =>
                                        some z132
                                  else
                                    some false
                                  ) fun z121 =>
                                  Option.bind (if z121 then
                                      (law23_alive).bind fun y152 =>
                                        some y152
                                    else
                                      some false
                                    ) fun z147 =>
                                    some (z147)
def law23_count_B2 (r0 : List Str → Str → Int → Int → Option (Int)) (l_0 : List Str) (s_1 : Str) (n_5 : Int) (i_6 : Int) : Option (Int) :=
  r0 l_0 s_1 n_5 (IntKind.i64.wrap (i_6 + 1))
def law23_count_L1 : Nat → List Str → Str → Int → Int → Option (Int)
  | 0, _, _, _, _ => none
  | n + 1, l_0, s_1, n_5, i_6 =>
    if decide (i_6 < (l_0.length : Int)) then
      (idx l_0 i_6).bind fun y4 =>
        if y4 == s_1 then
          law23_count_B2 (law23_count_L1 n) l_0 s_1 (IntKind.i64.wrap (n_5 + 1)) i_6
        else
          law23_count_B2 (law23_count_L1 n) l_0 s_1 n_5 i_6
    else
      some (n_5)
def law23_count (l_0 : List Str) (s_1 : Str) : Option (Int) :=
  law23_count_L1 fuel l_0 s_1 0 0
def law23_OtpRedeems_B4 (r0 : List Str → Int → Option (Bool)) (r1 : List Str → Int → List Str → Int → Option (Bool)) (codes_2 : List Str) (i_12 : Int) (l_13 : List Str) (k_15 : Int) (less_16 : Int) : Option (Bool) :=
  (idx codes_2 k_15).bind fun y142 =>
    (law23_count l_13 y142).bind fun y148 =>
      (idx codes_2 k_15).bind fun y152 =>
        (law23_count codes_2 y152).bind fun y158 =>
          if y148 != (IntKind.i64.wrap (y158 - less_16)) then
            some (false)
          else
            r1 codes_2 i_12 l_13 (IntKind.i64.wrap (k_15 + 1))
def law23_OtpRedeems_L3 (r0 : List Str → Int → Option (Bool)) : Nat → List Str → Int → List Str → Int → Option (Bool)
  | 0, _, _, _, _ => none
  | n + 1, codes_2, i_12, l_13, k_15 =>
    if decide (k_15 < (codes_2.length : Int)) then
      (idx codes_2 k_15).bind fun y127 =>
        (idx codes_2 i_12).bind fun y133 =>
          if y127 == y133 then
            law23_OtpRedeems_B4 r0 (law23_OtpRedeems_L3 r0 n) codes_2 i_12 l_13 k_15 1
          else
            law23_OtpRedeems_B4 r0 (law23_OtpRedeems_L3 r0 n) codes_2 i_12 l_13 k_15 0
    else
      r0 codes_2 (IntKind.i64.wrap (i_12 + 1))
def law23_OtpRedeems_L2 : Nat → List Str → Int → Option (Bool)
  | 0, _, _ => none
  | n + 1, codes_2, i_12 =>
    if decide (i_12 < (codes_2.length : Int)) then
      (idx codes_2 i_12).bind fun y104 =>
        (otp_Redeem codes_2 y104).bind fun y110 =>
          if (y110.2 != 0) || ((y110.1.length : Int) != (IntKind.i64.wrap ((codes_2.length : Int) - 1))) then
            some (false)
          else
            law23_OtpRedeems_L3 (law23_OtpRedeems_L2 n) fuel codes_2 i_12 y110.1 0
    else
      (law23_alive).bind fun y163 =>
        some (y163)
def law23_OtpRedeems_B1 (codes_2 : List Str) : Option (Bool) :=
  law23_OtpRedeems_L2 fuel codes_2 0
def law23_OtpRedeems (secret_0 : Str) (n_1 : Int) (codes_2 : List Str) : Option (Bool) :=
  Option.bind (if decide ((secret_0.length : Int) > 300) then
      some true
    else
      (law23_short codes_2).bind fun y10 =>
        some (!y10)
    ) fun z5 =>
    if z5 then
      (law23_alive).bind fun y15 =>
        some (y15)
    else
      if (decide (n_1 ≥ 1)) && (decide (n_1 < 16)) then
        (otp_Recovery secret_0 n_1).bind fun y27 =>
          (otp_Recovery secret_0 (IntKind.i64.wrap (n_1 + 1))).bind fun y33 =>
            (digest_Mac secret_0 ([114, 101, 99, 111, 118, 101, 114, 121, 48])).bind fun y39 =>
              Option.bind (if y27.2 != y33.2 then
                  some true
                else
                  Option.bind (if y27.2 == 0 then
                      Option.bind (if ((y27.1.length : Int) != n_1) || ((y33.1.length : Int) != (IntKind.i64.wrap (n_1 + 1))) then
                          some true
                        else
                          chk (inc 0 n_1 y33.1.length) (
                            (ref07_Lists y27.1 (cut y33.1 0 n_1)).bind fun y77 =>
                              some (!y77))
                        ) fun z68 =>
                        Option.bind (if z68 || (decide ((y39.length : Int) < 10)) then
                            some true
                          else
                            (idx y27.1 0).bind fun y95 =>
                              chk (inc 0 10 y39.length) (
                                some (!(y95 == (cut y39 0 10))))
                          ) fun z90 =>
                          some z90
                    else
                      some false
                    ) fun z54 =>
                    some z54
                ) fun z47 =>
                if z47 then
                  some (false)
                else
                  law23_OtpRedeems_B1 codes_2
      else
        law23_OtpRedeems_B1 codes_2
end Go.KW.S
