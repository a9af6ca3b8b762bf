/- Own work: a part of the proofs of this seat. -/
import Derived.Test.YtlmnhekpgjgndaaDoorKwLib
set_option linter.unusedVariables false
namespace Go.KW.S
open Go Go.KW

def law29_few_L1 : Nat → List Str → Int → Option (Bool)
  | 0, _, _ => none
  | n + 1, l_0, i_3 =>
    if (decide (i_3 < (l_0.length : Int))) && (decide (i_3 < 20)) then
      (idx l_0 i_3).bind fun y11 =>
        if decide ((y11.length : Int) > 200) then
          some (false)
        else
          (law29_few_L1 n) l_0 (IntKind.i64.wrap (i_3 + 1))
    else
      some (decide ((l_0.length : Int) ≤ 20))
def law29_few (l_0 : List Str) : Option (Bool) :=
  law29_few_L1 fuel l_0 0
def fold_upper (c_0 : Int) : Option (Bool) :=
  some ((decide (c_0 ≥ 65)) && (decide (c_0 ≤ 90)))
def fold_letter (c_0 : Int) : Option (Bool) :=
  (fold_upper c_0).bind fun y1 =>
    some (y1 || ((decide (c_0 ≥ 97)) && (decide (c_0 ≤ 122))))
def fold_digit (c_0 : Int) : Option (Bool) :=
  some ((decide (c_0 ≥ 48)) && (decide (c_0 ≤ 57)))
def fold_Word_1 (c_0 : Int) : Option (Bool) :=
  (fold_letter c_0).bind fun y1 =>
    Option.bind (if y1 then
        some true
      else
        (fold_digit c_0).bind fun y12 =>
          some y12
      ) fun z7 =>
      some ((((z7 || (c_0 == 45)) || (c_0 == 95)) || (c_0 == 46)) || (c_0 == 58))
def fold_made__Word_1_L1 : Nat → Str → Int → Int → Option (Bool)
  | 0, _, _, _ => none
  | n + 1, s_0, t_7, t_8 =>
    if decide (t_8 < t_7) then
      chk (inb t_8 s_0.length) (
        (fold_Word_1 (byteAt s_0 t_8)).bind fun y3 =>
          if !y3 then
            some (false)
          else
            (fold_made__Word_1_L1 n) s_0 t_7 (IntKind.i64.wrap (t_8 + 1)))
    else
      some ((!(s_0 == ([]))) && (decide ((s_0.length : Int) ≤ 64)))
def fold_made__Word_1 (s_0 : Str) : Option (Bool) :=
  fold_made__Word_1_L1 fuel s_0 (s_0.length : Int) 0
def fold_Word (s_0 : Str) : Option (Bool) :=
  (fold_made__Word_1 s_0).bind fun y1 =>
    some (y1)
def scope_valid (s_0 : Str) : Option (Bool) :=
  (fold_Word s_0).bind fun y1 =>
    Option.bind (if y1 then
        chk (inb 0 s_0.length) (
          some ((byteAt s_0 0) != 46))
      else
        some false
      ) fun z7 =>
      Option.bind (if z7 then
          chk (inb (IntKind.i64.wrap ((s_0.length : Int) - 1)) s_0.length) (
            some ((byteAt s_0 (IntKind.i64.wrap ((s_0.length : Int) - 1))) != 46))
        else
          some false
        ) fun z15 =>
        Option.bind (if z15 then
            (lib_Contains s_0 ([46, 46])).bind fun y28 =>
              some (!y28)
          else
            some false
          ) fun z23 =>
          some (z23)
def slices_Index_string_string_L1 : Nat → List Str → Str → Int → Int → Option (Int)
  | 0, _, _, _, _ => none
  | n + 1, s_0, v_1, t_7, t_8 =>
    if decide (t_8 < t_7) then
      (idx s_0 t_8).bind fun y4 =>
        if v_1 == y4 then
          some (t_8)
        else
          (slices_Index_string_string_L1 n) s_0 v_1 t_7 (IntKind.i64.wrap (t_8 + 1))
    else
      some ((-1))
def slices_Index_string_string (s_0 : List Str) (v_1 : Str) : Option (Int) :=
  slices_Index_string_string_L1 fuel s_0 v_1 (s_0.length : Int) 0
def slices_Contains_string_string (s_0 : List Str) (v_1 : Str) : Option (Bool) :=
  (slices_Index_string_string s_0 v_1).bind fun y3 =>
    some (decide (y3 ≥ 0))
def scope_Check_L1 : Nat → List Str → List Str → Int → Int → Option (Int)
  | 0, _, _, _, _ => none
  | n + 1, l_0, t_8, t_9, t_10 =>
    if decide (t_10 < t_9) then
      (idx t_8 t_10).bind fun y5 =>
        (scope_valid y5).bind fun y11 =>
          if !y11 then
            some (5)
          else
            chk (inc 0 t_10 l_0.length) (
              (slices_Contains_string_string (cut l_0 0 t_10) y5).bind fun y19 =>
                if y19 then
                  some (7)
                else
                  (scope_Check_L1 n) l_0 t_8 t_9 (IntKind.i64.wrap (t_10 + 1)))
    else
      some (0)
def scope_Check (l_0 : List Str) : Option (Int) :=
  if decide ((l_0.length : Int) > 16) then
    some (3)
  else
    scope_Check_L1 fuel l_0 l_0 (l_0.length : Int) 0
def scope_Parse (s_0 : Str) : Option ((List Str) × Int) :=
  if s_0 == ([]) then
    some ([], 0)
  else
    (lib_Split s_0 ([32])).bind fun y4 =>
      (scope_Check y4).bind fun y10 =>
        if y10 != 0 then
          some ([], y10)
        else
          some (y4, 0)
def scope_Text (l_0 : List Str) : Option (Str × Int) :=
  (scope_Check l_0).bind fun y3 =>
    if y3 != 0 then
      some ([], y3)
    else
      (lib_Join l_0 ([32])).bind fun y8 =>
        some (y8, 0)
def internal_stringslite_HasPrefix (s_0 : Str) (prefix_1 : Str) : Option (Bool) :=
  Option.bind (if decide ((s_0.length : Int) ≥ (prefix_1.length : Int)) then
      chk (inc 0 (prefix_1.length : Int) s_0.length) (
        some ((cut s_0 0 (prefix_1.length : Int)) == prefix_1))
    else
      some false
    ) fun z3 =>
    some (z3)
def strings_HasPrefix (s_0 : Str) (prefix_1 : Str) : Option (Bool) :=
  (internal_stringslite_HasPrefix s_0 prefix_1).bind fun y1 =>
    some (y1)
def scope_Implies (a_0 : Str) (b_1 : Str) : Option (Bool) :=
  (scope_valid a_0).bind fun y1 =>
    Option.bind (if y1 then
        (scope_valid b_1).bind fun y12 =>
          some y12
      else
        some false
      ) fun z7 =>
      Option.bind (if z7 then
          Option.bind (if a_0 == b_1 then
              some true
            else
              chk (fitS a_0 ([46])) (
                (strings_HasPrefix b_1 (a_0 ++ ([46]))).bind fun y31 =>
                  some y31)
            ) fun z25 =>
            some z25
        else
          some false
        ) fun z18 =>
        some (z18)
def scope_Sorted_B2 (r0 : List Str → List Str → List Str → Int → Int → Option (List Str)) (l_0 : List Str) (out_3 : List Str) (t_8 : List Str) (t_9 : Int) (t_10 : Int) : Option (List Str) :=
  r0 l_0 out_3 t_8 t_9 (IntKind.i64.wrap (t_10 + 1))
def scope_Sorted_L3 (r0 : List Str → List Str → List Str → Int → Int → Option (List Str)) : Nat → List Str → List Str → Str → List Str → Int → Int → List Str → Int → Int → Option (List Str)
  | 0, _, _, _, _, _, _, _, _, _ => none
  | n + 1, l_0, out_3, s_5, t_8, t_9, t_10, t_25, t_26, t_27 =>
    if decide (t_27 < t_26) then
      (idx t_25 t_27).bind fun y38 =>
        Option.bind (if !(y38 == s_5) then
            (scope_Implies y38 s_5).bind fun y51 =>
              some y51
          else
            some false
          ) fun z46 =>
          if z46 then
            scope_Sorted_B2 r0 l_0 out_3 t_8 t_9 t_10
          else
            (scope_Sorted_L3 r0 n) l_0 out_3 s_5 t_8 t_9 t_10 t_25 t_26 (IntKind.i64.wrap (t_27 + 1))
    else
      chk (fitL out_3.length ([s_5] : List Str).length) (
        scope_Sorted_B2 r0 l_0 (out_3 ++ ([s_5] : List Str)) t_8 t_9 t_10)
def scope_Sorted_L1 : Nat → List Str → List Str → List Str → Int → Int → Option (List Str)
  | 0, _, _, _, _, _ => none
  | n + 1, l_0, out_3, t_8, t_9, t_10 =>
    if decide (t_10 < t_9) then
      (idx t_8 t_10).bind fun y8 =>
        (scope_valid y8).bind fun y14 =>
          Option.bind (if !y14 then
              some true
            else
              chk (inc 0 t_10 l_0.length) (
                (slices_Contains_string_string (cut l_0 0 t_10) y8).bind fun y28 =>
                  some y28)
            ) fun z20 =>
            if z20 then
              scope_Sorted_B2 (scope_Sorted_L1 n) l_0 out_3 t_8 t_9 t_10
            else
              scope_Sorted_L3 (scope_Sorted_L1 n) fuel l_0 out_3 y8 t_8 t_9 t_10 l_0 (l_0.length : Int) 0
    else
      (lib_Sort out_3).bind fun y74 =>
        some (y74)
def scope_Sorted (l_0 : List Str) : Option (List Str) :=
  scope_Sorted_L1 fuel l_0 ([]) l_0 (l_0.length : Int) 0
def ref03_Same_L1 : Nat → List Str → List Str → Int → Option (Bool)
  | 0, _, _, _ => none
  | n + 1, a_0, b_1, i_5 =>
    if decide (i_5 < (a_0.length : Int)) then
      (idx a_0 i_5).bind fun y9 =>
        (idx b_1 i_5).bind fun y15 =>
          if !(y9 == y15) then
            some (false)
          else
            (ref03_Same_L1 n) a_0 b_1 (IntKind.i64.wrap (i_5 + 1))
    else
      some (true)
def ref03_Same (a_0 : List Str) (b_1 : List Str) : Option (Bool) :=
  if (a_0.length : Int) != (b_1.length : Int) then
    some (false)
  else
    ref03_Same_L1 fuel a_0 b_1 0
def scope_covered_L1 : Nat → Str → List Str → Int → Int → Option (Bool)
  | 0, _, _, _, _ => none
  | n + 1, s_0, t_7, t_8, t_9 =>
    if decide (t_9 < t_8) then
      (idx t_7 t_9).bind fun y4 =>
        (scope_Implies y4 s_0).bind fun y10 =>
          if y10 then
            some (true)
          else
            (scope_covered_L1 n) s_0 t_7 t_8 (IntKind.i64.wrap (t_9 + 1))
    else
      some (false)
def scope_covered (s_0 : Str) (l_1 : List Str) : Option (Bool) :=
  scope_covered_L1 fuel s_0 l_1 (l_1.length : Int) 0
def scope_Within_L1 : Nat → List Str → List Str → Int → Int → Option (Bool)
  | 0, _, _, _, _ => none
  | n + 1, b_1, t_7, t_8, t_9 =>
    if decide (t_9 < t_8) then
      (idx t_7 t_9).bind fun y6 =>
        (scope_covered y6 b_1).bind fun y12 =>
          if !y12 then
            some (false)
          else
            (scope_Within_L1 n) b_1 t_7 t_8 (IntKind.i64.wrap (t_9 + 1))
    else
      some (true)
def scope_Within (a_0 : List Str) (b_1 : List Str) : Option (Bool) :=
  scope_Within_L1 fuel b_1 a_0 (a_0.length : Int) 0
def scope_Common_B2 (r0 : List Str → List Str → List Str → List Str → Int → Int → Option (List Str)) (a_0 : List Str) (b_1 : List Str) (out_5 : List Str) (t_10 : List Str) (t_11 : Int) (t_12 : Int) : Option (List Str) :=
  r0 a_0 b_1 out_5 t_10 t_11 (IntKind.i64.wrap (t_12 + 1))
def scope_Common_B4 (r0 : List Str → List Str → List Str → List Str → Int → Int → Option (List Str)) (r1 : List Str → List Str → List Str → Int → Int → Option (List Str)) (a_0 : List Str) (out_5 : List Str) (t_24 : List Str) (t_25 : Int) (t_26 : Int) : Option (List Str) :=
  r1 a_0 out_5 t_24 t_25 (IntKind.i64.wrap (t_26 + 1))
def scope_Common_L3 (r0 : List Str → List Str → List Str → List Str → Int → Int → Option (List Str)) : Nat → List Str → List Str → List Str → Int → Int → Option (List Str)
  | 0, _, _, _, _, _ => none
  | n + 1, a_0, out_5, t_24, t_25, t_26 =>
    if decide (t_26 < t_25) then
      (idx t_24 t_26).bind fun y40 =>
        (scope_covered y40 a_0).bind fun y46 =>
          if y46 then
            chk (fitL out_5.length ([y40] : List Str).length) (
              scope_Common_B4 r0 (scope_Common_L3 r0 n) a_0 (out_5 ++ ([y40] : List Str)) t_24 t_25 t_26)
          else
            scope_Common_B4 r0 (scope_Common_L3 r0 n) a_0 out_5 t_24 t_25 t_26
    else
      (scope_Sorted out_5).bind fun y67 =>
        some (y67)
def scope_Common_L1 : Nat → List Str → List Str → List Str → List Str → Int → Int → Option (List Str)
  | 0, _, _, _, _, _, _ => none
  | n + 1, a_0, b_1, out_5, t_10, t_11, t_12 =>
    if decide (t_12 < t_11) then
      (idx t_10 t_12).bind fun y10 =>
        (scope_covered y10 b_1).bind fun y16 =>
          if y16 then
            chk (fitL out_5.length ([y10] : List Str).length) (
              scope_Common_B2 (scope_Common_L1 n) a_0 b_1 (out_5 ++ ([y10] : List Str)) t_10 t_11 t_12)
          else
            scope_Common_B2 (scope_Common_L1 n) a_0 b_1 out_5 t_10 t_11 t_12
    else
      scope_Common_L3 (scope_Common_L1 n) fuel a_0 out_5 b_1 (b_1.length : Int) 0
def scope_Common (a_0 : List Str) (b_1 : List Str) : Option (List Str) :=
  scope_Common_L1 fuel a_0 b_1 ([]) a_0 (a_0.length : Int) 0
def scope_Minus_B2 (r0 : List Str → List Str → List Str → Int → Int → Option (List Str)) (b_1 : List Str) (out_5 : List Str) (t_8 : List Str) (t_9 : Int) (t_10 : Int) : Option (List Str) :=
  r0 b_1 out_5 t_8 t_9 (IntKind.i64.wrap (t_10 + 1))
def scope_Minus_L1 : Nat → List Str → List Str → List Str → Int → Int → Option (List Str)
  | 0, _, _, _, _, _ => none
  | n + 1, b_1, out_5, t_8, t_9, t_10 =>
    if decide (t_10 < t_9) then
      (idx t_8 t_10).bind fun y10 =>
        (scope_covered y10 b_1).bind fun y16 =>
          if !y16 then
            chk (fitL out_5.length ([y10] : List Str).length) (
              scope_Minus_B2 (scope_Minus_L1 n) b_1 (out_5 ++ ([y10] : List Str)) t_8 t_9 t_10)
          else
            scope_Minus_B2 (scope_Minus_L1 n) b_1 out_5 t_8 t_9 t_10
    else
      (scope_Sorted out_5).bind fun y37 =>
        some (y37)
def scope_Minus (a_0 : List Str) (b_1 : List Str) : Option (List Str) :=
  scope_Minus_L1 fuel b_1 ([]) a_0 (a_0.length : Int) 0
def law29_awake : Option (Bool) :=
  (scope_Parse ([97, 32, 98, 46, 99])).bind fun y1 =>
    (scope_Parse ([32, 97])).bind fun y7 =>
      (scope_Text y1.1).bind fun y13 =>
        Option.bind (if (((y1.2 != 0) || (y7.2 != 5)) || (y13.2 != 0)) || (!(y13.1 == ([97, 32, 98, 46, 99]))) then
            some true
          else
            (scope_Check ([[97, 46, 46, 98]] : List Str)).bind fun y57 =>
              some (y57 != 5)
          ) fun z48 =>
          Option.bind (if z48 then
              some true
            else
              (scope_Check ([[], [], [], [], [], [], [], [], [], [], [], [], [], [], [], [], []] : List Str)).bind fun y72 =>
                some (y72 != 3)
            ) fun z63 =>
            if z63 then
              some (false)
            else
              (scope_Sorted ([[109, 97, 105, 108, 46, 114, 101, 97, 100], [97], [109, 97, 105, 108]] : List Str)).bind fun y81 =>
                (ref03_Same y81 ([[97], [109, 97, 105, 108]] : List Str)).bind fun y91 =>
                  Option.bind (if y91 then
                      (scope_Implies ([109, 97, 105, 108]) ([109, 97, 105, 108, 46, 114, 101, 97, 100])).bind fun y102 =>
                        some y102
                    else
                      some false
                    ) fun z97 =>
                    Option.bind (if z97 then
                        (scope_Implies ([109, 97, 105, 108]) ([109, 97, 105, 108, 98, 111, 120])).bind fun y113 =>
                          some (!y113)
                      else
                        some false
                      ) fun z108 =>
                      Option.bind (if z108 then
                          (scope_Within ([]) ([])).bind fun y124 =>
                            some y124
                        else
                          some false
                        ) fun z119 =>
                        Option.bind (if z119 then
                            (scope_Within ([[109, 97, 105, 108], [102, 105, 108, 101, 115, 46, 120]] : List Str) ([[109, 97, 105, 108, 46, 114, 101, 97, 100], [102, 105, 108, 101, 115]] : List Str)).bind fun y135 =>
                              some (!y135)
                          else
                            some false
                          ) fun z130 =>
                          Option.bind (if z130 then
                              (scope_Common ([[109, 97, 105, 108], [102, 105, 108, 101, 115, 46, 120]] : List Str) ([[109, 97, 105, 108, 46, 114, 101, 97, 100], [102, 105, 108, 101, 115]] : List Str)).bind fun y146 =>
                                (ref03_Same y146 ([[102, 105, 108, 101, 115, 46, 120], [109, 97, 105, 108, 46, 114, 101, 97, 100]] : List Str)).bind fun y156 =>
                                  some y156
                            else
                              some false
                            ) fun z141 =>
                            Option.bind (if z141 then
                                (scope_Minus ([[109, 97, 105, 108], [102, 105, 108, 101, 115, 46, 120]] : List Str) ([[109, 97, 105, 108, 46, 114, 101, 97, 100], [102, 105, 108, 101, 115]] : List Str)).bind fun y167 =>
                                  (ref03_Same y167 ([[109, 97, 105, 108]] : List Str)).bind fun y177 =>
                                    some y177
                              else
                                some false
                              ) fun z162 =>
                              some (z162)
def ref01_letter (c_0 : Int) : Option (Bool) :=
  some (((decide (c_0 ≥ 97)) && (decide (c_0 ≤ 122))) || ((decide (c_0 ≥ 65)) && (decide (c_0 ≤ 90))))
def ref01_digit (c_0 : Int) : Option (Bool) :=
  some ((decide (c_0 ≥ 48)) && (decide (c_0 ≤ 57)))
def ref01_Word_L1 : Nat → Str → Int → Option (Bool)
  | 0, _, _ => none
  | n + 1, s_0, i_3 =>
    if decide (i_3 < (s_0.length : Int)) then
      chk (inb i_3 s_0.length) (
        (ref01_letter (byteAt s_0 i_3)).bind fun y3 =>
          Option.bind (if !y3 then
              chk (inb i_3 s_0.length) (
                (ref01_digit (byteAt s_0 i_3)).bind fun y15 =>
                  some (!y15))
            else
              some false
            ) fun z9 =>
            Option.bind (if z9 then
                chk (inb i_3 s_0.length) (
                  some ((byteAt s_0 i_3) != 45))
              else
                some false
              ) fun z21 =>
              Option.bind (if z21 then
                  chk (inb i_3 s_0.length) (
                    some ((byteAt s_0 i_3) != 95))
                else
                  some false
                ) fun z29 =>
                Option.bind (if z29 then
                    chk (inb i_3 s_0.length) (
                      some ((byteAt s_0 i_3) != 46))
                  else
                    some false
                  ) fun z37 =>
                  Option.bind (if z37 then
                      chk (inb i_3 s_0.length) (
                        some ((byteAt s_0 i_3) != 58))
                    else
                      some false
                    ) fun z45 =>
                    if z45 then
                      some (false)
                    else
                      (ref01_Word_L1 n) s_0 (IntKind.i64.wrap (i_3 + 1)))
    else
      some ((decide ((s_0.length : Int) ≥ 1)) && (decide ((s_0.length : Int) ≤ 64)))
def ref01_Word (s_0 : Str) : Option (Bool) :=
  ref01_Word_L1 fuel s_0 0
def ref29_Valid_L1 : Nat → Str → Int → Option (Bool)
  | 0, _, _ => none
  | n + 1, s_0, i_3 =>
    if decide (i_3 < (s_0.length : Int)) then
      chk (inb i_3 s_0.length) (
        Option.bind (if (byteAt s_0 i_3) == 46 then
            chk (inb (IntKind.i64.wrap (i_3 - 1)) s_0.length) (
              some ((byteAt s_0 (IntKind.i64.wrap (i_3 - 1))) == 46))
          else
            some false
          ) fun z26 =>
          if z26 then
            some (false)
          else
            (ref29_Valid_L1 n) s_0 (IntKind.i64.wrap (i_3 + 1)))
    else
      some (true)
def ref29_Valid (s_0 : Str) : Option (Bool) :=
  (ref01_Word s_0).bind fun y1 =>
    Option.bind (if !y1 then
        some true
      else
        chk (inb 0 s_0.length) (
          some ((byteAt s_0 0) == 46))
      ) fun z7 =>
      Option.bind (if z7 then
          some true
        else
          chk (inb (IntKind.i64.wrap ((s_0.length : Int) - 1)) s_0.length) (
            some ((byteAt s_0 (IntKind.i64.wrap ((s_0.length : Int) - 1))) == 46))
        ) fun z15 =>
        if z15 then
          some (false)
        else
          ref29_Valid_L1 fuel s_0 1
def ref29_Check_L2 (r0 : List Str → Int → Option (Int)) : Nat → List Str → Int → Int → Option (Int)
  | 0, _, _, _ => none
  | n + 1, l_0, i_3, k_4 =>
    if decide (k_4 < i_3) then
      (idx l_0 k_4).bind fun y19 =>
        (idx l_0 i_3).bind fun y25 =>
          if y19 == y25 then
            some (7)
          else
            (ref29_Check_L2 r0 n) l_0 i_3 (IntKind.i64.wrap (k_4 + 1))
    else
      r0 l_0 (IntKind.i64.wrap (i_3 + 1))
def ref29_Check_L1 : Nat → List Str → Int → Option (Int)
  | 0, _, _ => none
  | n + 1, l_0, i_3 =>
    if decide (i_3 < (l_0.length : Int)) then
      (idx l_0 i_3).bind fun y5 =>
        (ref29_Valid y5).bind fun y11 =>
          if !y11 then
            some (5)
          else
            ref29_Check_L2 (ref29_Check_L1 n) fuel l_0 i_3 0
    else
      some (0)
def ref29_Check (l_0 : List Str) : Option (Int) :=
  if decide ((l_0.length : Int) > 16) then
    some (3)
  else
    ref29_Check_L1 fuel l_0 0
def ref29_Text_B2 (r0 : List Str → Str → Int → Option (Str × Int)) (l_0 : List Str) (s_5 : Str) (i_6 : Int) : Option (Str × Int) :=
  (idx l_0 i_6).bind fun y11 =>
    chk (fitS s_5 y11) (
      r0 l_0 (s_5 ++ y11) (IntKind.i64.wrap (i_6 + 1)))
def ref29_Text_L1 : Nat → List Str → Str → Int → Option (Str × Int)
  | 0, _, _, _ => none
  | n + 1, l_0, s_5, i_6 =>
    if decide (i_6 < (l_0.length : Int)) then
      if decide (i_6 > 0) then
        chk (fitS s_5 ([32])) (
          ref29_Text_B2 (ref29_Text_L1 n) l_0 (s_5 ++ ([32])) i_6)
      else
        ref29_Text_B2 (ref29_Text_L1 n) l_0 s_5 i_6
    else
      some (s_5, 0)
def ref29_Text (l_0 : List Str) : Option (Str × Int) :=
  (ref29_Check l_0).bind fun y3 =>
    if y3 != 0 then
      some ([], y3)
    else
      ref29_Text_L1 fuel l_0 ([]) 0
def ref29_Parse_B2 (r0 : Str → List Str → Int → Int → Option ((List Str) × Int)) (s_0 : Str) (out_4 : List Str) (from_5 : Int) (i_6 : Int) : Option ((List Str) × Int) :=
  r0 s_0 out_4 from_5 (IntKind.i64.wrap (i_6 + 1))
def ref29_Parse_L1 : Nat → Str → List Str → Int → Int → Option ((List Str) × Int)
  | 0, _, _, _, _ => none
  | n + 1, s_0, out_4, from_5, i_6 =>
    if decide (i_6 ≤ (s_0.length : Int)) then
      Option.bind (if i_6 == (s_0.length : Int) then
          some true
        else
          chk (inb i_6 s_0.length) (
            some ((byteAt s_0 i_6) == 32))
        ) fun z9 =>
        if z9 then
          chk (inc from_5 i_6 s_0.length) (
            chk (fitL out_4.length ([cut s_0 from_5 i_6] : List Str).length) (
              ref29_Parse_B2 (ref29_Parse_L1 n) s_0 (out_4 ++ ([cut s_0 from_5 i_6] : List Str)) (IntKind.i64.wrap (i_6 + 1)) i_6))
        else
          ref29_Parse_B2 (ref29_Parse_L1 n) s_0 out_4 from_5 i_6
    else
      (ref29_Check out_4).bind fun y33 =>
        if y33 != 0 then
          some ([], y33)
        else
          some (out_4, 0)
def ref29_Parse (s_0 : Str) : Option ((List Str) × Int) :=
  if s_0 == ([]) then
    some ([], 0)
  else
    ref29_Parse_L1 fuel s_0 ([]) 0 0
def law29_ScopeChecks (l_0 : List Str) (s_1 : Str) : Option (Bool) :=
  (law29_few l_0).bind fun y3 =>
    if (!y3) || (decide ((s_1.length : Int) > 2000)) then
      (law29_awake).bind fun y15 =>
        some (y15)
    else
      (scope_Text l_0).bind fun y19 =>
        (ref29_Text l_0).bind fun y23 =>
          (scope_Parse s_1).bind fun y27 =>
            (ref29_Parse s_1).bind fun y33 =>
              (scope_Check l_0).bind fun y39 =>
                (ref29_Check l_0).bind fun y43 =>
                  Option.bind (if ((y39 == y43) && (y19.1 == y23.1)) && (y19.2 == y23.2) then
                      (ref03_Same y27.1 y33.1).bind fun y68 =>
                        some y68
                    else
                      some false
                    ) fun z63 =>
                    Option.bind (if z63 && (y27.2 == y33.2) then
                        (law29_awake).bind fun y86 =>
                          some y86
                      else
                        some false
                      ) fun z81 =>
                      some (z81)
def ref29_Implies (a_0 : Str) (b_1 : Str) : Option (Bool) :=
  (ref29_Valid a_0).bind fun y1 =>
    Option.bind (if y1 then
        (ref29_Valid b_1).bind fun y12 =>
          some y12
      else
        some false
      ) fun z7 =>
      Option.bind (if z7 then
          Option.bind (if a_0 == b_1 then
              some true
            else
              Option.bind (if decide ((b_1.length : Int) > (a_0.length : Int)) then
                  chk (inc 0 (IntKind.i64.wrap ((a_0.length : Int) + 1)) b_1.length) (
                    chk (fitS a_0 ([46])) (
                      some ((cut b_1 0 (IntKind.i64.wrap ((a_0.length : Int) + 1))) == (a_0 ++ ([46])))))
                else
                  some false
                ) fun z32 =>
                some z32
            ) fun z25 =>
            some z25
        else
          some false
        ) fun z18 =>
        some (z18)
def ref06_Insert_B3 (r0 : List Str → Str → List Str → Bool → Int → Option (List Str)) (l_0 : List Str) (s_1 : Str) (out_5 : List Str) (done_6 : Bool) (i_7 : Int) : Option (List Str) :=
  r0 l_0 s_1 out_5 done_6 (IntKind.i64.wrap (i_7 + 1))
def ref06_Insert_B2 (r0 : List Str → Str → List Str → Bool → Int → Option (List Str)) (l_0 : List Str) (s_1 : Str) (out_5 : List Str) (done_6 : Bool) (i_7 : Int) : Option (List Str) :=
  (idx l_0 i_7).bind fun y38 =>
    if !(y38 == s_1) then
      (idx l_0 i_7).bind fun y45 =>
        chk (fitL out_5.length ([y45] : List Str).length) (
          ref06_Insert_B3 r0 l_0 s_1 (out_5 ++ ([y45] : List Str)) done_6 i_7)
    else
      ref06_Insert_B3 r0 l_0 s_1 out_5 done_6 i_7
def ref06_Insert_B4 (r0 : List Str → Str → List Str → Bool → Int → Option (List Str)) (out_5 : List Str) : Option (List Str) :=
  some (out_5)
def ref06_Insert_L1 : Nat → List Str → Str → List Str → Bool → Int → Option (List Str)
  | 0, _, _, _, _, _ => none
  | n + 1, l_0, s_1, out_5, done_6, i_7 =>
    if decide (i_7 < (l_0.length : Int)) then
      Option.bind (if !done_6 then
          (idx l_0 i_7).bind fun y15 =>
            some (!sLt y15 s_1)
        else
          some false
        ) fun z10 =>
        if z10 then
          chk (fitL out_5.length ([s_1] : List Str).length) (
            ref06_Insert_B2 (ref06_Insert_L1 n) l_0 s_1 (out_5 ++ ([s_1] : List Str)) true i_7)
        else
          ref06_Insert_B2 (ref06_Insert_L1 n) l_0 s_1 out_5 done_6 i_7
    else
      if !done_6 then
        chk (fitL out_5.length ([s_1] : List Str).length) (
          ref06_Insert_B4 (ref06_Insert_L1 n) (out_5 ++ ([s_1] : List Str)))
      else
        ref06_Insert_B4 (ref06_Insert_L1 n) out_5
def ref06_Insert (l_0 : List Str) (s_1 : Str) : Option (List Str) :=
  ref06_Insert_L1 fuel l_0 s_1 ([]) false 0
def ref29_Sorted_B3 (r0 : List Str → List Str → Int → Option (List Str)) (r1 : List Str → List Str → Int → Bool → Int → Option (List Str)) (l_0 : List Str) (out_3 : List Str) (i_4 : Int) : Option (List Str) :=
  r0 l_0 out_3 (IntKind.i64.wrap (i_4 + 1))
def ref29_Sorted_L2 (r0 : List Str → List Str → Int → Option (List Str)) : Nat → List Str → List Str → Int → Bool → Int → Option (List Str)
  | 0, _, _, _, _, _ => none
  | n + 1, l_0, out_3, i_4, least_5, k_6 =>
    if decide (k_6 < (l_0.length : Int)) then
      Option.bind (if least_5 then
          (idx l_0 k_6).bind fun y30 =>
            (idx l_0 i_4).bind fun y36 =>
              Option.bind (if y30 == y36 then
                  some true
                else
                  (idx l_0 k_6).bind fun y49 =>
                    (idx l_0 i_4).bind fun y55 =>
                      (ref29_Implies y49 y55).bind fun y61 =>
                        some (!y61)
                ) fun z44 =>
                some z44
        else
          some false
        ) fun z25 =>
        (ref29_Sorted_L2 r0 n) l_0 out_3 i_4 z25 (IntKind.i64.wrap (k_6 + 1))
    else
      if least_5 then
        (idx l_0 i_4).bind fun y66 =>
          (ref06_Insert out_3 y66).bind fun y72 =>
            ref29_Sorted_B3 r0 (ref29_Sorted_L2 r0 n) l_0 y72 i_4
      else
        ref29_Sorted_B3 r0 (ref29_Sorted_L2 r0 n) l_0 out_3 i_4
def ref29_Sorted_L1 : Nat → List Str → List Str → Int → Option (List Str)
  | 0, _, _, _ => none
  | n + 1, l_0, out_3, i_4 =>
    if decide (i_4 < (l_0.length : Int)) then
      (idx l_0 i_4).bind fun y8 =>
        (ref29_Valid y8).bind fun y14 =>
          ref29_Sorted_L2 (ref29_Sorted_L1 n) fuel l_0 out_3 i_4 y14 0
    else
      some (out_3)
def ref29_Sorted (l_0 : List Str) : Option (List Str) :=
  ref29_Sorted_L1 fuel l_0 ([]) 0
def ref29_covers_L1 : Nat → List Str → Str → Int → Option (Bool)
  | 0, _, _, _ => none
  | n + 1, l_0, s_1, i_5 =>
    if decide (i_5 < (l_0.length : Int)) then
      (idx l_0 i_5).bind fun y4 =>
        (ref29_Implies y4 s_1).bind fun y10 =>
          if y10 then
            some (true)
          else
            (ref29_covers_L1 n) l_0 s_1 (IntKind.i64.wrap (i_5 + 1))
    else
      some (false)
def ref29_covers (l_0 : List Str) (s_1 : Str) : Option (Bool) :=
  ref29_covers_L1 fuel l_0 s_1 0
def ref29_Within_L1 : Nat → List Str → List Str → Int → Option (Bool)
  | 0, _, _, _ => none
  | n + 1, a_0, b_1, i_5 =>
    if decide (i_5 < (a_0.length : Int)) then
      (idx a_0 i_5).bind fun y6 =>
        (ref29_covers b_1 y6).bind fun y12 =>
          if !y12 then
            some (false)
          else
            (ref29_Within_L1 n) a_0 b_1 (IntKind.i64.wrap (i_5 + 1))
    else
      some (true)
def ref29_Within (a_0 : List Str) (b_1 : List Str) : Option (Bool) :=
  ref29_Within_L1 fuel a_0 b_1 0
def law29_ScopeSorts (a_0 : List Str) (b_1 : List Str) (s_2 : Str) (t_3 : Str) : Option (Bool) :=
  (law29_few a_0).bind fun y5 =>
    Option.bind (if !y5 then
        some true
      else
        (law29_few b_1).bind fun y16 =>
          some (!y16)
      ) fun z11 =>
      if (z11 || (decide ((s_2.length : Int) > 200))) || (decide ((t_3.length : Int) > 200)) then
        (law29_awake).bind fun y35 =>
          some (y35)
      else
        (scope_Sorted a_0).bind fun y39 =>
          (ref29_Sorted a_0).bind fun y45 =>
            (ref03_Same y39 y45).bind fun y51 =>
              Option.bind (if y51 then
                  (scope_Implies s_2 t_3).bind fun y62 =>
                    (ref29_Implies s_2 t_3).bind fun y66 =>
                      some (y62 == y66)
                else
                  some false
                ) fun z57 =>
                Option.bind (if z57 then
                    (scope_Within a_0 b_1).bind fun y77 =>
                      (ref29_Within a_0 b_1).bind fun y81 =>
                        some (y77 == y81)
                  else
                    some false
                  ) fun z72 =>
                  Option.bind (if z72 then
                      (law29_awake).bind fun y92 =>
                        some y92
                    else
                      some false
                    ) fun z87 =>
                    some (z87)
def ref29_Common_B2 (r0 : List Str → List Str → List Str → Int → Option (List Str)) (a_0 : List Str) (b_1 : List Str) (out_5 : List Str) (i_6 : Int) : Option (List Str) :=
  r0 a_0 b_1 out_5 (IntKind.i64.wrap (i_6 + 1))
def ref29_Common_B4 (r0 : List Str → List Str → List Str → Int → Option (List Str)) (r1 : List Str → List Str → List Str → Int → Option (List Str)) (a_0 : List Str) (b_1 : List Str) (out_5 : List Str) (i_7 : Int) : Option (List Str) :=
  r1 a_0 b_1 out_5 (IntKind.i64.wrap (i_7 + 1))
def ref29_Common_L3 (r0 : List Str → List Str → List Str → Int → Option (List Str)) : Nat → List Str → List Str → List Str → Int → Option (List Str)
  | 0, _, _, _, _ => none
  | n + 1, a_0, b_1, out_5, i_7 =>
    if decide (i_7 < (b_1.length : Int)) then
      (idx b_1 i_7).bind fun y46 =>
        (ref29_covers a_0 y46).bind fun y52 =>
          if y52 then
            (idx b_1 i_7).bind fun y57 =>
              chk (fitL out_5.length ([y57] : List Str).length) (
                ref29_Common_B4 r0 (ref29_Common_L3 r0 n) a_0 b_1 (out_5 ++ ([y57] : List Str)) i_7)
          else
            ref29_Common_B4 r0 (ref29_Common_L3 r0 n) a_0 b_1 out_5 i_7
    else
      (ref29_Sorted out_5).bind fun y79 =>
        some (y79)
def ref29_Common_L1 : Nat → List Str → List Str → List Str → Int → Option (List Str)
  | 0, _, _, _, _ => none
  | n + 1, a_0, b_1, out_5, i_6 =>
    if decide (i_6 < (a_0.length : Int)) then
      (idx a_0 i_6).bind fun y10 =>
        (ref29_covers b_1 y10).bind fun y16 =>
          if y16 then
            (idx a_0 i_6).bind fun y21 =>
              chk (fitL out_5.length ([y21] : List Str).length) (
                ref29_Common_B2 (ref29_Common_L1 n) a_0 b_1 (out_5 ++ ([y21] : List Str)) i_6)
          else
            ref29_Common_B2 (ref29_Common_L1 n) a_0 b_1 out_5 i_6
    else
      ref29_Common_L3 (ref29_Common_L1 n) fuel a_0 b_1 out_5 0
def ref29_Common (a_0 : List Str) (b_1 : List Str) : Option (List Str) :=
  ref29_Common_L1 fuel a_0 b_1 ([]) 0
def ref29_Minus_B2 (r0 : List Str → List Str → List Str → Int → Option (List Str)) (a_0 : List Str) (b_1 : List Str) (out_5 : List Str) (i_6 : Int) : Option (List Str) :=
  r0 a_0 b_1 out_5 (IntKind.i64.wrap (i_6 + 1))
def ref29_Minus_L1 : Nat → List Str → List Str → List Str → Int → Option (List Str)
  | 0, _, _, _, _ => none
  | n + 1, a_0, b_1, out_5, i_6 =>
    if decide (i_6 < (a_0.length : Int)) then
      (idx a_0 i_6).bind fun y10 =>
        (ref29_covers b_1 y10).bind fun y16 =>
          if !y16 then
            (idx a_0 i_6).bind fun y21 =>
              chk (fitL out_5.length ([y21] : List Str).length) (
                ref29_Minus_B2 (ref29_Minus_L1 n) a_0 b_1 (out_5 ++ ([y21] : List Str)) i_6)
          else
            ref29_Minus_B2 (ref29_Minus_L1 n) a_0 b_1 out_5 i_6
    else
      (ref29_Sorted out_5).bind fun y43 =>
        some (y43)
def ref29_Minus (a_0 : List Str) (b_1 : List Str) : Option (List Str) :=
  ref29_Minus_L1 fuel a_0 b_1 ([]) 0
def law29_ScopeCombines (a_0 : List Str) (b_1 : List Str) : Option (Bool) :=
  (law29_few a_0).bind fun y5 =>
    Option.bind (if !y5 then
        some true
      else
        (law29_few b_1).bind fun y16 =>
          some (!y16)
      ) fun z11 =>
      if z11 then
        (law29_awake).bind fun y21 =>
          some (y21)
      else
        (scope_Common a_0 b_1).bind fun y25 =>
          (ref29_Common a_0 b_1).bind fun y31 =>
            (ref03_Same y25 y31).bind fun y37 =>
              Option.bind (if y37 then
                  (scope_Minus a_0 b_1).bind fun y48 =>
                    (ref29_Minus a_0 b_1).bind fun y54 =>
                      (ref03_Same y48 y54).bind fun y60 =>
                        some y60
                else
                  some false
                ) fun z43 =>
                Option.bind (if z43 then
                    (law29_awake).bind fun y71 =>
                      some y71
                  else
                    some false
                  ) fun z66 =>
                  some (z66)
def law29_ScopeBack_B2 : Option (Bool) :=
  (law29_awake).bind fun y66 =>
    some (y66)
def law29_ScopeBack_B1 (s_1 : Str) : Option (Bool) :=
  (scope_Parse s_1).bind fun y47 =>
    if y47.2 == 0 then
      (scope_Text y47.1).bind fun y54 =>
        if (y54.2 != 0) || (!(y54.1 == s_1)) then
          some (false)
        else
          law29_ScopeBack_B2
    else
      law29_ScopeBack_B2
def law29_ScopeBack (l_0 : List Str) (s_1 : Str) : Option (Bool) :=
  (law29_few l_0).bind fun y3 =>
    if (!y3) || (decide ((s_1.length : Int) > 2000)) then
      (law29_awake).bind fun y15 =>
        some (y15)
    else
      (scope_Text l_0).bind fun y19 =>
        (scope_Check l_0).bind fun y23 =>
          if y19.2 != y23 then
            some (false)
          else
            if y19.2 == 0 then
              (scope_Parse y19.1).bind fun y29 =>
                Option.bind (if y29.2 != 0 then
                    some true
                  else
                    (ref03_Same y29.1 l_0).bind fun y42 =>
                      some (!y42)
                  ) fun z37 =>
                  if z37 then
                    some (false)
                  else
                    law29_ScopeBack_B1 s_1
            else
              law29_ScopeBack_B1 s_1
def law29_ScopeOrder (a_0 : Str) (b_1 : Str) (c_2 : Str) : Option (Bool) :=
  (law29_few ([a_0, b_1, c_2] : List Str)).bind fun y5 =>
    if !y5 then
      (law29_awake).bind fun y10 =>
        some (y10)
    else
      (scope_Implies a_0 b_1).bind fun y14 =>
        Option.bind (if y14 then
            (scope_Implies b_1 c_2).bind fun y25 =>
              some y25
          else
            some false
          ) fun z20 =>
          Option.bind (if z20 then
              (scope_Implies a_0 c_2).bind fun y36 =>
                some (!y36)
            else
              some false
            ) fun z31 =>
            Option.bind (if z31 then
                some true
              else
                (scope_Implies a_0 b_1).bind fun y47 =>
                  Option.bind (if y47 then
                      (scope_Implies b_1 a_0).bind fun y58 =>
                        some y58
                    else
                      some false
                    ) fun z53 =>
                    some (z53 && (!(a_0 == b_1)))
              ) fun z42 =>
              if z42 then
                some (false)
              else
                (scope_Implies a_0 a_0).bind fun y70 =>
                  (scope_Check ([a_0] : List Str)).bind fun y78 =>
                    Option.bind (if y70 == (y78 == 0) then
                        (law29_awake).bind fun y89 =>
                          some y89
                      else
                        some false
                      ) fun z84 =>
                      some (z84)
def law29_covered (l_0 : List Str) (s_1 : Str) : Option (Bool) :=
  (scope_Within ([s_1] : List Str) l_0).bind fun y7 =>
    some (y7)
def law29_ScopeCovered_L1 : Nat → List Str → List Str → Str → List Str → List Str → Int → Option (Bool)
  | 0, _, _, _, _, _, _ => none
  | n + 1, a_0, b_1, s_2, n_7, c_8, i_9 =>
    if decide (i_9 < (n_7.length : Int)) then
      (idx n_7 (IntKind.i64.wrap (i_9 - 1))).bind fun y47 =>
        (idx n_7 i_9).bind fun y53 =>
          if !sLt y47 y53 then
            some (false)
          else
            (law29_ScopeCovered_L1 n) a_0 b_1 s_2 n_7 c_8 (IntKind.i64.wrap (i_9 + 1))
    else
      (law29_covered n_7 s_2).bind fun y60 =>
        (law29_covered a_0 s_2).bind fun y64 =>
          Option.bind (if y60 == y64 then
              (scope_Sorted n_7).bind fun y75 =>
                (ref03_Same y75 n_7).bind fun y81 =>
                  some y81
            else
              some false
            ) fun z70 =>
            Option.bind (if z70 then
                (law29_covered c_8 s_2).bind fun y92 =>
                  (law29_covered a_0 s_2).bind fun y96 =>
                    Option.bind (if y96 then
                        (law29_covered b_1 s_2).bind fun y107 =>
                          some y107
                      else
                        some false
                      ) fun z102 =>
                      some (y92 == z102)
              else
                some false
              ) fun z87 =>
              Option.bind (if z87 then
                  (scope_Common b_1 a_0).bind fun y118 =>
                    (ref03_Same c_8 y118).bind fun y124 =>
                      some y124
                else
                  some false
                ) fun z113 =>
                Option.bind (if z113 then
                    (scope_Within c_8 a_0).bind fun y135 =>
                      some y135
                  else
                    some false
                  ) fun z130 =>
                  Option.bind (if z130 then
                      (scope_Within c_8 b_1).bind fun y146 =>
                        some y146
                    else
                      some false
                    ) fun z141 =>
                    Option.bind (if z141 then
                        (law29_awake).bind fun y157 =>
                          some y157
                      else
                        some false
                      ) fun z152 =>
                      some (z152)
def law29_ScopeCovered (a_0 : List Str) (b_1 : List Str) (s_2 : Str) : Option (Bool) :=
  (law29_few a_0).bind fun y5 =>
    Option.bind (if !y5 then
        some true
      else
        (law29_few b_1).bind fun y16 =>
          some (!y16)
      ) fun z11 =>
      if z11 || (decide ((s_2.length : Int) > 200)) then
        (law29_awake).bind fun y28 =>
          some (y28)
      else
        (scope_Sorted a_0).bind fun y32 =>
          (scope_Common a_0 b_1).bind fun y38 =>
            law29_ScopeCovered_L1 fuel a_0 b_1 s_2 y32 y38 1
def law29_ScopeParts_L2 (r0 : List Str → List Str → List Str → Int → Option (Bool)) : Nat → List Str → List Str → List Str → Int → Option (Bool)
  | 0, _, _, _, _ => none
  | n + 1, a_0, b_1, m_5, i_7 =>
    if decide (i_7 < (m_5.length : Int)) then
      (idx m_5 i_7).bind fun y86 =>
        (law29_covered b_1 y86).bind fun y92 =>
          Option.bind (if y92 then
              some true
            else
              (idx m_5 i_7).bind fun y103 =>
                (law29_covered a_0 y103).bind fun y109 =>
                  some (!y109)
            ) fun z98 =>
            if z98 then
              some (false)
            else
              (law29_ScopeParts_L2 r0 n) a_0 b_1 m_5 (IntKind.i64.wrap (i_7 + 1))
    else
      (scope_Minus a_0 a_0).bind fun y114 =>
        Option.bind (if (y114.length : Int) == 0 then
            (law29_awake).bind fun y127 =>
              some y127
          else
            some false
          ) fun z122 =>
          some (z122)
def law29_ScopeParts_L1 : Nat → List Str → List Str → List Str → Int → Option (Bool)
  | 0, _, _, _, _ => none
  | n + 1, a_0, b_1, m_5, i_6 =>
    if decide (i_6 < (a_0.length : Int)) then
      (idx a_0 i_6).bind fun y34 =>
        (idx a_0 i_6).bind fun y40 =>
          (scope_Implies y34 y40).bind fun y46 =>
            Option.bind (if y46 then
                (idx a_0 i_6).bind fun y57 =>
                  (law29_covered b_1 y57).bind fun y63 =>
                    some (!y63)
              else
                some false
              ) fun z52 =>
              Option.bind (if z52 then
                  (idx a_0 i_6).bind fun y74 =>
                    (law29_covered m_5 y74).bind fun y80 =>
                      some (!y80)
                else
                  some false
                ) fun z69 =>
                if z69 then
                  some (false)
                else
                  (law29_ScopeParts_L1 n) a_0 b_1 m_5 (IntKind.i64.wrap (i_6 + 1))
    else
      law29_ScopeParts_L2 (law29_ScopeParts_L1 n) fuel a_0 b_1 m_5 0
def law29_ScopeParts (a_0 : List Str) (b_1 : List Str) : Option (Bool) :=
  (law29_few a_0).bind fun y5 =>
    Option.bind (if !y5 then
        some true
      else
        (law29_few b_1).bind fun y16 =>
          some (!y16)
      ) fun z11 =>
      if z11 then
        (law29_awake).bind fun y21 =>
          some (y21)
      else
        (scope_Minus a_0 b_1).bind fun y25 =>
          law29_ScopeParts_L1 fuel a_0 b_1 y25 0
end Go.KW.S
