/- Own work: a part of the proofs of this seat. -/
import Derived.Test.YteifnoehmfjogaaDoorKwMap3
import Derived.Test.YteifnoehmfjogaaDoorKwSeg2
import Derived.Test.YteifnoehmfjogaaDoorKwKeys
import Derived.Test.YteifnoehmfjogaaDoorKwGlob
import Derived.Test.YteifnoehmfjogaaDoorKwOffs
import Derived.Test.YteifnoehmfjogaaDoorKwMapR
import Derived.Test.YteifnoehmfjogaaDoorKwOpt
set_option linter.unusedVariables false
namespace Go.KW.S
open Go Go.KW
def tab_digest_digits : List Int := [48, 49, 50, 51, 52, 53, 54, 55, 56, 57, 97, 98, 99, 100, 101, 102]
structure api_Verifier where
  Salt : Str
  Rounds : Int
  Hash : Str
  deriving DecidableEq
def api_Verifier.c : Cdc api_Verifier := Cdc.flat 3 (fun x => [str x.Salt, .int .i64 x.Rounds, str x.Hash]) (fun _ => rfl) (fun _ u h => by simp at h; rcases h with rfl | rfl | rfl <;> rfl)
structure secret_record where
  times : List Int
  until_ : Int
  deriving DecidableEq
def secret_record.c : Cdc secret_record :=
  { size := 2, rd := fun A w cs x => ∃ v0, cs = [v0, .int .i64 x.until_] ∧ SlR (intC .i64) A w v0 x.times
    len := fun h => by obtain ⟨_, h, _⟩ := h; rw [h]; rfl
    one := fun h u hu => by
      obtain ⟨v0, h, h0⟩ := h
      subst h
      simp at hu
      rcases hu with rfl | rfl
      all_goals first | rfl | exact SlR.oneCell (by assumption)
    step := fun h s => by
      obtain ⟨v0, h, h0⟩ := h
      exact ⟨v0, h, h0.step s⟩ }
def secret_record.O (τ : Nat → Nat) (ρ : Tags) (w : World) (g : Nat) (x : secret_record) : Prop := ∃ v0, Blk ρ (τ 0) w g (.cells #[v0, .int .i64 x.until_] 75 (0, 0)) ∧ OffT (intC .i64) 3 ρ (τ 1) w v0 x.times
theorem secret_record.objK : ObjK 2 secret_record.O := ⟨fun h hm h0 => by
  obtain ⟨v0, hB, h1⟩ := h
  exact ⟨v0, hB.mv (hm 0 (by decide)), h1.mv (hm 1 (by decide)) (h0 1 (by decide))⟩⟩
structure secret_Locks where
  most : Int
  window : Int
  lock : Int
  users : GMap Str secret_record
  deriving DecidableEq
def secret_Locks.O (τ : Nat → Nat) (ρ : Tags) (w : World) (g : Nat) (x : secret_Locks) : Prop := ∃ v0 p0, Blk ρ (τ 0) w g (.cells #[.int .i64 x.most, .int .i64 x.window, .int .i64 x.lock, v0] 67 (0, 0)) ∧ MapT str ptrC false ρ (τ 1) w v0 p0 ∧ Recs secret_record.O 2 ρ (τ 2) w p0 x.users
theorem secret_Locks.objK : ObjK 3 secret_Locks.O := ⟨fun h hm h0 => by
  obtain ⟨v0, p0, hB, h1, h2⟩ := h
  exact ⟨v0, p0, hB.mv (hm 0 (by decide)), h1.mv (hm 1 (by decide)), Recs.mv h2 secret_record.objK (hm 2 (by decide)) (h0 2 (by decide))⟩⟩
structure law22_Op where
  Call : Int
  Now : Int
  User : Str
  deriving DecidableEq
def law22_Op.c : Cdc law22_Op := Cdc.flat 3 (fun x => [.int .i64 x.Call, .int .i64 x.Now, str x.User]) (fun _ => rfl) (fun _ u h => by simp at h; rcases h with rfl | rfl | rfl <;> rfl)
structure ref22_record where
  user : Str
  times : List Int
  until_ : Int
  deriving DecidableEq
def ref22_record.c : Cdc ref22_record :=
  { size := 3, rd := fun A w cs x => ∃ v0, cs = [str x.user, v0, .int .i64 x.until_] ∧ SlR (intC .i64) A w v0 x.times
    len := fun h => by obtain ⟨_, h, _⟩ := h; rw [h]; rfl
    one := fun h u hu => by
      obtain ⟨v0, h, h0⟩ := h
      subst h
      simp at hu
      rcases hu with rfl | rfl | rfl
      all_goals first | rfl | exact SlR.oneCell (by assumption)
    step := fun h s => by
      obtain ⟨v0, h, h0⟩ := h
      exact ⟨v0, h, h0.step s⟩ }
structure ref22_Locks where
  made : Bool
  most : Int
  window : Int
  lock : Int
  records : List ref22_record
  deriving DecidableEq
def ref22_Locks.c : Cdc ref22_Locks :=
  { size := 5, rd := fun A w cs x => ∃ v0, cs = [.bool x.made, .int .i64 x.most, .int .i64 x.window, .int .i64 x.lock, v0] ∧ SlR ref22_record.c A w v0 x.records
    len := fun h => by obtain ⟨_, h, _⟩ := h; rw [h]; rfl
    one := fun h u hu => by
      obtain ⟨v0, h, h0⟩ := h
      subst h
      simp at hu
      rcases hu with rfl | rfl | rfl | rfl | rfl
      all_goals first | rfl | exact SlR.oneCell (by assumption)
    step := fun h s => by
      obtain ⟨v0, h, h0⟩ := h
      exact ⟨v0, h, h0.step s⟩ }
def ref22_Locks.O (τ : Nat → Nat) (ρ : Tags) (w : World) (g : Nat) (x : ref22_Locks) : Prop := ∃ v0, Blk ρ (τ 0) w g (.cells #[.bool x.made, .int .i64 x.most, .int .i64 x.window, .int .i64 x.lock, v0] 71 (0, 0)) ∧ OwnT ref22_record.c 79 ρ (τ 1) w v0 x.records
theorem ref22_Locks.objK : ObjK 2 ref22_Locks.O := ⟨fun h hm h0 => by
  obtain ⟨v0, hB, h1⟩ := h
  exact ⟨v0, hB.mv (hm 0 (by decide)), h1.mv (hm 1 (by decide)) (h0 1 (by decide))⟩⟩
def fold_upper (c_0 : Int) : Option (Bool) :=
  some ((decide (c_0 ≥ 65)) && (decide (c_0 ≤ 90)))
def fold_letter (c_0 : Int) : Option (Bool) :=
  (fold_upper c_0).bind fun y1 =>
    some (y1 || ((decide (c_0 ≥ 97)) && (decide (c_0 ≤ 122))))
def fold_digit (c_0 : Int) : Option (Bool) :=
  some ((decide (c_0 ≥ 48)) && (decide (c_0 ≤ 57)))
def fold_Word_1 (c_0 : Int) : Option (Bool) :=
  (fold_letter c_0).bind fun y1 =>
    Option.bind (if y1 then
        some true
      else
        (fold_digit c_0).bind fun y12 =>
          some y12
      ) fun z7 =>
      some ((((z7 || (c_0 == 45)) || (c_0 == 95)) || (c_0 == 46)) || (c_0 == 58))
def fold_made__Word_1_L1 : Nat → Str → Int → Int → Option (Bool)
  | 0, _, _, _ => none
  | n + 1, s_0, t_7, t_8 =>
    if decide (t_8 < t_7) then
      chk (inb t_8 s_0.length) (
        (fold_Word_1 (byteAt s_0 t_8)).bind fun y3 =>
          if !y3 then
            some (false)
          else
            (fold_made__Word_1_L1 n) s_0 t_7 (IntKind.i64.wrap (t_8 + 1)))
    else
      some ((!(s_0 == ([]))) && (decide ((s_0.length : Int) ≤ 64)))
def fold_made__Word_1 (s_0 : Str) : Option (Bool) :=
  fold_made__Word_1_L1 fuel s_0 (s_0.length : Int) 0
def fold_Word (s_0 : Str) : Option (Bool) :=
  (fold_made__Word_1 s_0).bind fun y1 =>
    some (y1)
def secret_isPassword_L1 : Nat → Str → Int → Int → Option (Bool)
  | 0, _, _, _ => none
  | n + 1, s_0, t_5, t_6 =>
    if decide (t_6 < t_5) then
      chk (inb t_6 s_0.length) (
        Option.bind (if decide ((byteAt s_0 t_6) < 32) then
            some true
          else
            chk (inb t_6 s_0.length) (
              some (decide ((byteAt s_0 t_6) > 126)))
          ) fun z5 =>
          if z5 then
            some (false)
          else
            (secret_isPassword_L1 n) s_0 t_5 (IntKind.i64.wrap (t_6 + 1)))
    else
      some ((decide ((s_0.length : Int) ≥ 8)) && (decide ((s_0.length : Int) ≤ 256)))
def secret_isPassword (s_0 : Str) : Option (Bool) :=
  secret_isPassword_L1 fuel s_0 (s_0.length : Int) 0
def digest_Sum_L1 : Nat → Str → Int → Int → Int → Option (Int)
  | 0, _, _, _, _ => none
  | n + 1, s_0, h_3, t_6, t_7 =>
    if decide (t_7 < t_6) then
      chk (inb t_7 s_0.length) (
        (digest_Sum_L1 n) s_0 (IntKind.u64.wrap ((bXor .u64 h_3 (IntKind.u64.wrap (byteAt s_0 t_7))) * 1099511628211)) t_6 (IntKind.i64.wrap (t_7 + 1)))
    else
      some (bXor .u64 (IntKind.u64.wrap ((bXor .u64 (IntKind.u64.wrap ((bXor .u64 h_3 (bShr .u64 h_3 33)) * 18397679294719823053)) (bShr .u64 (IntKind.u64.wrap ((bXor .u64 h_3 (bShr .u64 h_3 33)) * 18397679294719823053)) 33)) * 14181476777654086739)) (bShr .u64 (IntKind.u64.wrap ((bXor .u64 (IntKind.u64.wrap ((bXor .u64 h_3 (bShr .u64 h_3 33)) * 18397679294719823053)) (bShr .u64 (IntKind.u64.wrap ((bXor .u64 h_3 (bShr .u64 h_3 33)) * 18397679294719823053)) 33)) * 14181476777654086739)) 33))
def digest_Sum (s_0 : Str) : Option (Int) :=
  digest_Sum_L1 fuel s_0 14695981039346656037 (s_0.length : Int) 0
def digest_Hex_L1 : Nat → Int → List Int → Int → Option (Str)
  | 0, _, _, _ => none
  | n + 1, n_0, b_3, t_5 =>
    if decide (t_5 < 16) then
      chk (decide (0 ≤ IntKind.i64.wrap (4 * t_5))) (
        chk (inb (bAnd .u64 (bShr .u64 n_0 (IntKind.i64.wrap (4 * t_5))) 15) 16) (
          (idx tab_digest_digits (bAnd .u64 (bShr .u64 n_0 (IntKind.i64.wrap (4 * t_5))) 15)).bind fun y11 =>
            chk (inb (IntKind.i64.wrap (15 - t_5)) 16) (
              chk (inb (IntKind.i64.wrap (15 - t_5)) b_3.length) (
                (digest_Hex_L1 n) n_0 (setAt b_3 (IntKind.i64.wrap (15 - t_5)) y11) (IntKind.i64.wrap (t_5 + 1))))))
    else
      chk (b_3.length == 16) (
        some (bytesStr b_3))
def digest_Hex (n_0 : Int) : Option (Str) :=
  digest_Hex_L1 fuel n_0 ([0, 0, 0, 0, 0, 0, 0, 0, 0, 0, 0, 0, 0, 0, 0, 0]) 0
def digest_Text (s_0 : Str) : Option (Str) :=
  (digest_Sum s_0).bind fun y1 =>
    (digest_Hex y1).bind fun y5 =>
      some (y5)
def digest_Iterate_L1 : Nat → Str → Str → Int → Int → Option (Str)
  | 0, _, _, _, _ => none
  | n + 1, salt_0, h_7, t_15, t_16 =>
    if decide (t_16 < t_15) then
      chk (fitS h_7 ([124])) (
        chk (fitS (h_7 ++ ([124])) salt_0) (
          (digest_Text ((h_7 ++ ([124])) ++ salt_0)).bind fun y10 =>
            (digest_Iterate_L1 n) salt_0 y10 t_15 (IntKind.i64.wrap (t_16 + 1))))
    else
      some (h_7)
def digest_Iterate (salt_0 : Str) (s_1 : Str) (rounds_2 : Int) : Option (Str) :=
  chk (fitS salt_0 ([124])) (
    chk (fitS (salt_0 ++ ([124])) s_1) (
      (digest_Text ((salt_0 ++ ([124])) ++ s_1)).bind fun y3 =>
        digest_Iterate_L1 fuel salt_0 y3 (gmin (gmax rounds_2 0) 64) 0))
def secret_Make (password_0 : Str) (salt_1 : Str) (rounds_2 : Int) : Option (api_Verifier × Int) :=
  (fold_Word salt_1).bind fun y8 =>
    if ((!y8) || (decide (rounds_2 < 1))) || (decide (rounds_2 > 64)) then
      some ((api_Verifier.mk ([]) 0 ([])), 2)
    else
      (secret_isPassword password_0).bind fun y29 =>
        if !y29 then
          some ((api_Verifier.mk ([]) 0 ([])), 4)
        else
          (digest_Iterate salt_1 password_0 rounds_2).bind fun y36 =>
            some ((api_Verifier.mk salt_1 rounds_2 y36), 0)
def clock_limited (t_0 : Int) : Option (Int) :=
  some (gmin (gmax t_0 0) 1099511627776)
def clock_Add (t_0 : Int) (d_1 : Int) : Option (Int) :=
  (clock_limited t_0).bind fun y1 =>
    (clock_limited d_1).bind fun y5 =>
      (clock_limited (IntKind.i64.wrap (y1 + y5))).bind fun y9 =>
        some (y9)
def secret_NewLocks (most_0 : Int) (window_1 : Int) (lock_2 : Int) : Option ((Option secret_Locks) × Int) :=
  (clock_Add window_1 0).bind fun y1 =>
    (clock_Add lock_2 0).bind fun y6 =>
      if (((decide (most_0 < 1)) || (decide (most_0 > 256))) || (decide (y1 < 1))) || (decide (y6 < 1)) then
        some (none, 2)
      else
        some (some (secret_Locks.mk most_0 y1 y6 (some [] : GMap Str secret_record)), 0)
def digest_ReadHex_B3 (r0 : Str → Int → Int → Int → Option (Int × Int)) (r1 : Str → Int → Int → Int → Int → Int → Int → Option (Int × Int)) (s_0 : Str) (n_4 : Int) (i_5 : Int) (v_6 : Int) (t_13 : Int) (t_14 : Int) (t_18 : Int) : Option (Int × Int) :=
  r1 s_0 n_4 i_5 v_6 t_13 t_14 (IntKind.i64.wrap (t_18 + 1))
def digest_ReadHex_L2 (r0 : Str → Int → Int → Int → Option (Int × Int)) : Nat → Str → Int → Int → Int → Int → Int → Int → Option (Int × Int)
  | 0, _, _, _, _, _, _, _ => none
  | n + 1, s_0, n_4, i_5, v_6, t_13, t_14, t_18 =>
    if decide (t_18 < 16) then
      (idx tab_digest_digits t_18).bind fun y4 =>
        chk (inb i_5 s_0.length) (
          if y4 == (byteAt s_0 i_5) then
            digest_ReadHex_B3 r0 (digest_ReadHex_L2 r0 n) s_0 n_4 i_5 t_18 t_13 t_14 t_18
          else
            digest_ReadHex_B3 r0 (digest_ReadHex_L2 r0 n) s_0 n_4 i_5 v_6 t_13 t_14 t_18)
    else
      if decide (v_6 < 0) then
        some (0, 4)
      else
        r0 s_0 (bOr .u64 (bShl .u64 n_4 4) (IntKind.u64.wrap v_6)) t_13 (IntKind.i64.wrap (t_14 + 1))
def digest_ReadHex_L1 : Nat → Str → Int → Int → Int → Option (Int × Int)
  | 0, _, _, _, _ => none
  | n + 1, s_0, n_4, t_13, t_14 =>
    if decide (t_14 < t_13) then
      digest_ReadHex_L2 (digest_ReadHex_L1 n) fuel s_0 n_4 t_14 (-1) t_13 t_14 0
    else
      some (n_4, 0)
def digest_ReadHex (s_0 : Str) : Option (Int × Int) :=
  if (s_0.length : Int) != 16 then
    some (0, 4)
  else
    digest_ReadHex_L1 fuel s_0 0 (s_0.length : Int) 0
def secret_Valid (v_0 : api_Verifier) : Option (Bool) :=
  (digest_ReadHex v_0.Hash).bind fun y8 =>
    (fold_Word v_0.Salt).bind fun y12 =>
      some (((y12 && (decide (v_0.Rounds ≥ 1))) && (decide (v_0.Rounds ≤ 64))) && (y8.2 == 0))
def secret_Check (v_0 : api_Verifier) (password_1 : Str) : Option (Bool) :=
  (secret_Valid v_0).bind fun y10 =>
    Option.bind (if y10 then
        (secret_isPassword password_1).bind fun y21 =>
          some y21
      else
        some false
      ) fun z16 =>
      Option.bind (if z16 then
          (digest_Iterate v_0.Salt password_1 v_0.Rounds).bind fun y32 =>
            some (v_0.Hash == y32)
        else
          some false
        ) fun z27 =>
        some (z27)
def secret_class (c_0 : Int) : Option (Int) :=
  if (decide (c_0 ≥ 97)) && (decide (c_0 ≤ 122)) then
    some (0)
  else
    if (decide (c_0 ≥ 65)) && (decide (c_0 ≤ 90)) then
      some (1)
    else
      if (decide (c_0 ≥ 48)) && (decide (c_0 ≤ 57)) then
        some (2)
      else
        some (3)
def fold_Lower_B2 (r0 : List Int → Int → Int → Option (Str)) (b_3 : List Int) (t_8 : Int) (t_9 : Int) : Option (Str) :=
  r0 b_3 t_8 (IntKind.i64.wrap (t_9 + 1))
def fold_Lower_L1 : Nat → List Int → Int → Int → Option (Str)
  | 0, _, _, _ => none
  | n + 1, b_3, t_8, t_9 =>
    if decide (t_9 < t_8) then
      chk (inb t_9 b_3.length) (
        (idx b_3 t_9).bind fun y14 =>
          (fold_upper y14).bind fun y16 =>
            if y16 then
              chk (inb t_9 b_3.length) (
                (idx b_3 t_9).bind fun y22 =>
                  chk (inb t_9 b_3.length) (
                    chk (inb t_9 b_3.length) (
                      fold_Lower_B2 (fold_Lower_L1 n) (setAt b_3 t_9 (IntKind.u8.wrap (y22 + 32))) t_8 t_9)))
            else
              fold_Lower_B2 (fold_Lower_L1 n) b_3 t_8 t_9)
    else
      some (bytesStr b_3)
def fold_Lower (s_0 : Str) : Option (Str) :=
  chk (fitS s_0 []) (
    fold_Lower_L1 fuel (strBytes s_0) ((strBytes s_0).length : Int) 0)
def secret_Quality_L1 : Nat → Str → Str → List Int → Int → Int → Option (Int)
  | 0, _, _, _, _, _ => none
  | n + 1, password_0, user_1, has_5, t_11, t_12 =>
    if decide (t_12 < t_11) then
      chk (inb t_12 password_0.length) (
        (secret_class (byteAt password_0 t_12)).bind fun y15 =>
          chk (inb y15 4) (
            chk (inb y15 has_5.length) (
              (secret_Quality_L1 n) password_0 user_1 (setAt has_5 y15 1) t_11 (IntKind.i64.wrap (t_12 + 1)))))
    else
      (idx has_5 0).bind fun y23 =>
        (idx has_5 1).bind fun y25 =>
          (idx has_5 2).bind fun y27 =>
            (idx has_5 3).bind fun y29 =>
              if decide ((IntKind.i64.wrap ((IntKind.i64.wrap ((IntKind.i64.wrap (y23 + y25)) + y27)) + y29)) < 3) then
                some (11)
              else
                Option.bind (if decide ((user_1.length : Int) ≥ 3) then
                    (fold_Lower password_0).bind fun y39 =>
                      (fold_Lower user_1).bind fun y43 =>
                        (lib_Contains y39 y43).bind fun y47 =>
                          some y47
                  else
                    some false
                  ) fun z34 =>
                  if z34 then
                    some (11)
                  else
                    some (0)
def secret_Quality (password_0 : Str) (user_1 : Str) : Option (Int) :=
  (secret_isPassword password_0).bind fun y1 =>
    if !y1 then
      some (4)
    else
      secret_Quality_L1 fuel password_0 user_1 ([0, 0, 0, 0]) (password_0.length : Int) 0
def secret_Locks_count_B2 (r0 : secret_Locks → Int → Int → List Int → Int → Int → Option (Int)) (ok_0 : secret_Locks) (now_2 : Int) (n_7 : Int) (t_13 : List Int) (t_14 : Int) (t_15 : Int) : Option (Int) :=
  r0 ok_0 now_2 n_7 t_13 t_14 (IntKind.i64.wrap (t_15 + 1))
def secret_Locks_count_L1 : Nat → secret_Locks → Int → Int → List Int → Int → Int → Option (Int)
  | 0, _, _, _, _, _, _ => none
  | n + 1, ok_0, now_2, n_7, t_13, t_14, t_15 =>
    if decide (t_15 < t_14) then
      (idx t_13 t_15).bind fun y15 =>
        if (decide (y15 ≤ now_2)) && (decide ((IntKind.i64.wrap (now_2 - y15)) < ok_0.window)) then
          secret_Locks_count_B2 (secret_Locks_count_L1 n) ok_0 now_2 (IntKind.i64.wrap (n_7 + 1)) t_13 t_14 t_15
        else
          secret_Locks_count_B2 (secret_Locks_count_L1 n) ok_0 now_2 n_7 t_13 t_14 t_15
    else
      some (n_7)
def secret_Locks_count (k_0 : secret_Locks) (r_1 : secret_record) (now_2 : Int) : Option (Int) :=
  secret_Locks_count_L1 fuel k_0 now_2 0 r_1.times (r_1.times.length : Int) 0
def secret_Locks_Fail_B2 (ok_0 : secret_Locks) (t_7 : Int) (locked_8 : Bool) (r_6k : Str) : Option (secret_Locks) :=
  Option.bind (if locked_8 then
      some true
    else
      (mgetP ok_0.users r_6k).bind fun y93 =>
        (secret_Locks_count ok_0 y93 t_7).bind fun y100 =>
          some (decide (y100 ≥ ok_0.most))
    ) fun z88 =>
    if z88 then
      (mgetP ok_0.users r_6k).bind fun y107 =>
        (clock_Add t_7 ok_0.lock).bind fun y153 =>
          some ((secret_Locks.mk ok_0.most ok_0.window ok_0.lock (mput ok_0.users r_6k (secret_record.mk y107.times (gmax y107.until_ y153)))))
    else
      some (ok_0)
def secret_Locks_Fail_B1 (ok_0 : secret_Locks) (now_2 : Int) (r_6k : Str) : Option (secret_Locks) :=
  (clock_Add now_2 0).bind fun y41 =>
    (mgetP ok_0.users r_6k).bind fun y46 =>
      chk (fitL y46.times.length ([y41] : List Int).length) (
        if decide (((y46.times ++ ([y41] : List Int)).length : Int) > 256) then
          chk (inc 1 ((y46.times ++ ([y41] : List Int)).length) (y46.times ++ ([y41] : List Int)).length) (
            secret_Locks_Fail_B2 (secret_Locks.mk ok_0.most ok_0.window ok_0.lock (mput ok_0.users r_6k (secret_record.mk (cut (y46.times ++ ([y41] : List Int)) 1 ((y46.times ++ ([y41] : List Int)).length)) y46.until_))) y41 (decide (y41 < y46.until_)) r_6k)
        else
          secret_Locks_Fail_B2 (secret_Locks.mk ok_0.most ok_0.window ok_0.lock (mput ok_0.users r_6k (secret_record.mk (y46.times ++ ([y41] : List Int)) y46.until_))) y41 (decide (y41 < y46.until_)) r_6k)
def secret_Locks_Fail (k_0 : secret_Locks) (user_1 : Str) (now_2 : Int) : Option (secret_Locks) :=
  Option.bind (if k_0.users.isNone then
      some true
    else
      (fold_Word user_1).bind fun y14 =>
        some (!y14)
    ) fun z8 =>
    if z8 then
      some (k_0)
    else
      if (mgetP k_0.users user_1).isNone then
        if decide ((mlen k_0.users) ≥ 256) then
          some (k_0)
        else
          chk k_0.users.isSome (
            secret_Locks_Fail_B1 (secret_Locks.mk k_0.most k_0.window k_0.lock (mput (mput k_0.users user_1 (secret_record.mk ([] : List Int) 0)) user_1 (secret_record.mk ([] : List Int) 0))) now_2 user_1)
      else
        secret_Locks_Fail_B1 k_0 now_2 user_1
def secret_Locks_Locked (k_0 : secret_Locks) (user_1 : Str) (now_2 : Int) : Option (Bool) :=
  Option.bind (if !(mgetP k_0.users user_1).isNone then
      (clock_Add now_2 0).bind fun y15 =>
        (mgetP k_0.users user_1).bind fun y20 =>
          some (decide (y15 < y20.until_))
    else
      some false
    ) fun z10 =>
    some (z10)
def secret_Locks_Failures (k_0 : secret_Locks) (user_1 : Str) (now_2 : Int) : Option (Int) :=
  if (mgetP k_0.users user_1).isNone then
    some (0)
  else
    (clock_Add now_2 0).bind fun y9 =>
      (mgetP k_0.users user_1).bind fun y14 =>
        (secret_Locks_count k_0 y14 y9).bind fun y21 =>
          some (y21)
def secret_Reused_L1 : Nat → Str → List api_Verifier → Int → Int → Option (Bool)
  | 0, _, _, _, _ => none
  | n + 1, password_1, t_7, t_8, t_9 =>
    if decide (t_9 < t_8) then
      (idx t_7 t_9).bind fun y4 =>
        (secret_Check y4 password_1).bind fun y19 =>
          if y19 then
            some (true)
          else
            (secret_Reused_L1 n) password_1 t_7 t_8 (IntKind.i64.wrap (t_9 + 1))
    else
      some (false)
def secret_Reused (l_0 : List api_Verifier) (password_1 : Str) : Option (Bool) :=
  secret_Reused_L1 fuel password_1 l_0 (l_0.length : Int) 0
def law22_awake : Option (Bool) :=
  (secret_Make ([65, 98, 99, 100, 101, 102, 103, 49]) ([115, 97, 108, 116]) 2).bind fun y1 =>
    (secret_Make ([115, 101, 99, 114, 101, 116]) ([115, 97, 108, 116]) 2).bind fun y13 =>
      (secret_NewLocks 0 10 10).bind fun y25 =>
        optC y25.1 (
            (secret_NewLocks 2 10 100).bind fun y384 =>
              optC y384.1 (
                  Option.bind (if ((((y1.2 != 0) || (y13.2 != 4)) || (y25.2 != 2)) || (y384.2 != 0)) || true then
                      some true
                    else
                      (digest_Iterate ([115, 97, 108, 116]) ([65, 98, 99, 100, 101, 102, 103, 49]) 2).bind fun y660 =>
                        some (!(y1.1.Hash == y660))
                    ) fun z655 =>
                    Option.bind (if z655 then
                        some true
                      else
                        (secret_Check y1.1 ([65, 98, 99, 100, 101, 102, 103, 49])).bind fun y672 =>
                          some (!y672)
                      ) fun z667 =>
                      Option.bind (if z667 then
                          some true
                        else
                          (secret_Valid y1.1).bind fun y684 =>
                            some (!y684)
                        ) fun z679 =>
                        Option.bind (if z679 then
                            some true
                          else
                            (secret_Quality ([65, 98, 99, 100, 101, 102, 103, 49]) ([97, 110, 110])).bind fun y696 =>
                              some (y696 != 0)
                          ) fun z691 =>
                          Option.bind (if z691 then
                              some true
                            else
                              (secret_Quality ([120, 65, 110, 110, 45, 49, 50, 51, 52]) ([97, 110, 110])).bind fun y708 =>
                                some (y708 != 11)
                            ) fun z703 =>
                            Option.bind (if z703 then
                                some true
                              else
                                (secret_Quality ([97, 98, 99, 100, 101, 102, 103, 104]) ([97, 110, 110])).bind fun y720 =>
                                  some (y720 != 11)
                              ) fun z715 =>
                              if z715 then
                                some (false)
                              else
                                none)
                fun z392 =>
                  Option.bind (if ((((y1.2 != 0) || (y13.2 != 4)) || (y25.2 != 2)) || (y384.2 != 0)) || false then
                      some true
                    else
                      (digest_Iterate ([115, 97, 108, 116]) ([65, 98, 99, 100, 101, 102, 103, 49]) 2).bind fun y437 =>
                        some (!(y1.1.Hash == y437))
                    ) fun z432 =>
                    Option.bind (if z432 then
                        some true
                      else
                        (secret_Check y1.1 ([65, 98, 99, 100, 101, 102, 103, 49])).bind fun y449 =>
                          some (!y449)
                      ) fun z444 =>
                      Option.bind (if z444 then
                          some true
                        else
                          (secret_Valid y1.1).bind fun y461 =>
                            some (!y461)
                        ) fun z456 =>
                        Option.bind (if z456 then
                            some true
                          else
                            (secret_Quality ([65, 98, 99, 100, 101, 102, 103, 49]) ([97, 110, 110])).bind fun y473 =>
                              some (y473 != 0)
                          ) fun z468 =>
                          Option.bind (if z468 then
                              some true
                            else
                              (secret_Quality ([120, 65, 110, 110, 45, 49, 50, 51, 52]) ([97, 110, 110])).bind fun y485 =>
                                some (y485 != 11)
                            ) fun z480 =>
                            Option.bind (if z480 then
                                some true
                              else
                                (secret_Quality ([97, 98, 99, 100, 101, 102, 103, 104]) ([97, 110, 110])).bind fun y497 =>
                                  some (y497 != 11)
                              ) fun z492 =>
                              if z492 then
                                some (false)
                              else
                                (secret_Locks_Fail z392 ([97, 110, 110]) 5).bind fun y504 =>
                                  (secret_Locks_Locked y504 ([97, 110, 110]) 5).bind fun y515 =>
                                    (secret_Locks_Fail y504 ([97, 110, 110]) 9).bind fun y520 =>
                                      (secret_Locks_Fail y520 ([98, 111, 98]) 5).bind fun y531 =>
                                        (secret_Locks_Fail y531 ([98, 111, 98]) 15).bind fun y542 =>
                                          (secret_Locks_Failures y542 ([97, 110, 110]) 9).bind fun y553 =>
                                            Option.bind (if !y515 then
                                                (secret_Locks_Locked y542 ([97, 110, 110]) 108).bind fun y566 =>
                                                  some y566
                                              else
                                                some false
                                              ) fun z560 =>
                                              Option.bind (if z560 then
                                                  (secret_Locks_Locked y542 ([97, 110, 110]) 109).bind fun y579 =>
                                                    some (!y579)
                                                else
                                                  some false
                                                ) fun z573 =>
                                                Option.bind (if z573 then
                                                    (secret_Locks_Locked y542 ([98, 111, 98]) 15).bind fun y592 =>
                                                      some (!y592)
                                                  else
                                                    some false
                                                  ) fun z586 =>
                                                  Option.bind (if z586 && (y553 == 2) then
                                                      (secret_Reused ([y1.1] : List api_Verifier) ([65, 98, 99, 100, 101, 102, 103, 49])).bind fun y618 =>
                                                        some y618
                                                    else
                                                      some false
                                                    ) fun z607 =>
                                                    some (z607))
          fun z33 =>
            (secret_NewLocks 2 10 100).bind fun y41 =>
              optC y41.1 (
                  Option.bind (if ((((y1.2 != 0) || (y13.2 != 4)) || (y25.2 != 2)) || (y41.2 != 0)) || true then
                      some true
                    else
                      (digest_Iterate ([115, 97, 108, 116]) ([65, 98, 99, 100, 101, 102, 103, 49]) 2).bind fun y317 =>
                        some (!(y1.1.Hash == y317))
                    ) fun z312 =>
                    Option.bind (if z312 then
                        some true
                      else
                        (secret_Check y1.1 ([65, 98, 99, 100, 101, 102, 103, 49])).bind fun y329 =>
                          some (!y329)
                      ) fun z324 =>
                      Option.bind (if z324 then
                          some true
                        else
                          (secret_Valid y1.1).bind fun y341 =>
                            some (!y341)
                        ) fun z336 =>
                        Option.bind (if z336 then
                            some true
                          else
                            (secret_Quality ([65, 98, 99, 100, 101, 102, 103, 49]) ([97, 110, 110])).bind fun y353 =>
                              some (y353 != 0)
                          ) fun z348 =>
                          Option.bind (if z348 then
                              some true
                            else
                              (secret_Quality ([120, 65, 110, 110, 45, 49, 50, 51, 52]) ([97, 110, 110])).bind fun y365 =>
                                some (y365 != 11)
                            ) fun z360 =>
                            Option.bind (if z360 then
                                some true
                              else
                                (secret_Quality ([97, 98, 99, 100, 101, 102, 103, 104]) ([97, 110, 110])).bind fun y377 =>
                                  some (y377 != 11)
                              ) fun z372 =>
                              if z372 then
                                some (false)
                              else
                                none)
                fun z49 =>
                  Option.bind (if ((((y1.2 != 0) || (y13.2 != 4)) || (y25.2 != 2)) || (y41.2 != 0)) || false then
                      some true
                    else
                      (digest_Iterate ([115, 97, 108, 116]) ([65, 98, 99, 100, 101, 102, 103, 49]) 2).bind fun y94 =>
                        some (!(y1.1.Hash == y94))
                    ) fun z89 =>
                    Option.bind (if z89 then
                        some true
                      else
                        (secret_Check y1.1 ([65, 98, 99, 100, 101, 102, 103, 49])).bind fun y106 =>
                          some (!y106)
                      ) fun z101 =>
                      Option.bind (if z101 then
                          some true
                        else
                          (secret_Valid y1.1).bind fun y118 =>
                            some (!y118)
                        ) fun z113 =>
                        Option.bind (if z113 then
                            some true
                          else
                            (secret_Quality ([65, 98, 99, 100, 101, 102, 103, 49]) ([97, 110, 110])).bind fun y130 =>
                              some (y130 != 0)
                          ) fun z125 =>
                          Option.bind (if z125 then
                              some true
                            else
                              (secret_Quality ([120, 65, 110, 110, 45, 49, 50, 51, 52]) ([97, 110, 110])).bind fun y142 =>
                                some (y142 != 11)
                            ) fun z137 =>
                            Option.bind (if z137 then
                                some true
                              else
                                (secret_Quality ([97, 98, 99, 100, 101, 102, 103, 104]) ([97, 110, 110])).bind fun y154 =>
                                  some (y154 != 11)
                              ) fun z149 =>
                              if z149 then
                                some (false)
                              else
                                (secret_Locks_Fail z49 ([97, 110, 110]) 5).bind fun y161 =>
                                  (secret_Locks_Locked y161 ([97, 110, 110]) 5).bind fun y172 =>
                                    (secret_Locks_Fail y161 ([97, 110, 110]) 9).bind fun y177 =>
                                      (secret_Locks_Fail y177 ([98, 111, 98]) 5).bind fun y188 =>
                                        (secret_Locks_Fail y188 ([98, 111, 98]) 15).bind fun y199 =>
                                          (secret_Locks_Failures y199 ([97, 110, 110]) 9).bind fun y210 =>
                                            Option.bind (if !y172 then
                                                (secret_Locks_Locked y199 ([97, 110, 110]) 108).bind fun y223 =>
                                                  some y223
                                              else
                                                some false
                                              ) fun z217 =>
                                              Option.bind (if z217 then
                                                  (secret_Locks_Locked y199 ([97, 110, 110]) 109).bind fun y236 =>
                                                    some (!y236)
                                                else
                                                  some false
                                                ) fun z230 =>
                                                Option.bind (if z230 then
                                                    (secret_Locks_Locked y199 ([98, 111, 98]) 15).bind fun y249 =>
                                                      some (!y249)
                                                  else
                                                    some false
                                                  ) fun z243 =>
                                                  Option.bind (if z243 && (y210 == 2) then
                                                      (secret_Reused ([y1.1] : List api_Verifier) ([65, 98, 99, 100, 101, 102, 103, 49])).bind fun y275 =>
                                                        some y275
                                                    else
                                                      some false
                                                    ) fun z264 =>
                                                    some (z264)
def ref22_Password_L1 : Nat → Str → Int → Option (Bool)
  | 0, _, _ => none
  | n + 1, s_0, i_3 =>
    if decide (i_3 < (s_0.length : Int)) then
      chk (inb i_3 s_0.length) (
        Option.bind (if decide ((byteAt s_0 i_3) < 32) then
            some true
          else
            chk (inb i_3 s_0.length) (
              some (decide ((byteAt s_0 i_3) > 126)))
          ) fun z13 =>
          if z13 then
            some (false)
          else
            (ref22_Password_L1 n) s_0 (IntKind.i64.wrap (i_3 + 1)))
    else
      some (true)
def ref22_Password (s_0 : Str) : Option (Bool) :=
  if (decide ((s_0.length : Int) < 8)) || (decide ((s_0.length : Int) > 256)) then
    some (false)
  else
    ref22_Password_L1 fuel s_0 0
def ref22_class (c_0 : Int) : Option (Int) :=
  if (decide (c_0 ≥ 97)) && (decide (c_0 ≤ 122)) then
    some (0)
  else
    if (decide (c_0 ≥ 65)) && (decide (c_0 ≤ 90)) then
      some (1)
    else
      if (decide (c_0 ≥ 48)) && (decide (c_0 ≤ 57)) then
        some (2)
      else
        some (3)
def ref01_Lower_B2 (r0 : Str → List Int → Int → Option (Str)) (s_0 : Str) (b_3 : List Int) (i_4 : Int) (c_5 : Int) : Option (Str) :=
  chk (fitL b_3.length ([c_5] : List Int).length) (
    r0 s_0 (b_3 ++ ([c_5] : List Int)) (IntKind.i64.wrap (i_4 + 1)))
def ref01_Lower_L1 : Nat → Str → List Int → Int → Option (Str)
  | 0, _, _, _ => none
  | n + 1, s_0, b_3, i_4 =>
    if decide (i_4 < (s_0.length : Int)) then
      chk (inb i_4 s_0.length) (
        if (decide ((byteAt s_0 i_4) ≥ 65)) && (decide ((byteAt s_0 i_4) ≤ 90)) then
          ref01_Lower_B2 (ref01_Lower_L1 n) s_0 b_3 i_4 (IntKind.u8.wrap ((IntKind.u8.wrap ((byteAt s_0 i_4) + 97)) - 65))
        else
          ref01_Lower_B2 (ref01_Lower_L1 n) s_0 b_3 i_4 (byteAt s_0 i_4))
    else
      some (bytesStr b_3)
def ref01_Lower (s_0 : Str) : Option (Str) :=
  ref01_Lower_L1 fuel s_0 ([] : List Int) 0
def ref22_contains_L1 : Nat → Str → Str → Int → Option (Bool)
  | 0, _, _, _ => none
  | n + 1, s_0, part_1, i_5 =>
    if decide ((IntKind.i64.wrap (i_5 + (part_1.length : Int))) ≤ (s_0.length : Int)) then
      chk (inc i_5 (IntKind.i64.wrap (i_5 + (part_1.length : Int))) s_0.length) (
        if (cut s_0 i_5 (IntKind.i64.wrap (i_5 + (part_1.length : Int)))) == part_1 then
          some (true)
        else
          (ref22_contains_L1 n) s_0 part_1 (IntKind.i64.wrap (i_5 + 1)))
    else
      some (false)
def ref22_contains (s_0 : Str) (part_1 : Str) : Option (Bool) :=
  ref22_contains_L1 fuel s_0 part_1 0
def ref22_Quality_B3 (r0 : Str → Str → Int → Int → Option (Int)) (r1 : Str → Str → Int → Int → Bool → Int → Option (Int)) (password_0 : Str) (user_1 : Str) (n_5 : Int) (k_6 : Int) : Option (Int) :=
  r0 password_0 user_1 n_5 (IntKind.i64.wrap (k_6 + 1))
def ref22_Quality_L2 (r0 : Str → Str → Int → Int → Option (Int)) : Nat → Str → Str → Int → Int → Bool → Int → Option (Int)
  | 0, _, _, _, _, _, _ => none
  | n + 1, password_0, user_1, n_5, k_6, found_7, i_8 =>
    if decide (i_8 < (password_0.length : Int)) then
      Option.bind (if found_7 then
          some true
        else
          chk (inb i_8 password_0.length) (
            (ref22_class (byteAt password_0 i_8)).bind fun y16 =>
              some (y16 == k_6))
        ) fun z10 =>
        (ref22_Quality_L2 r0 n) password_0 user_1 n_5 k_6 z10 (IntKind.i64.wrap (i_8 + 1))
    else
      if found_7 then
        ref22_Quality_B3 r0 (ref22_Quality_L2 r0 n) password_0 user_1 (IntKind.i64.wrap (n_5 + 1)) k_6
      else
        ref22_Quality_B3 r0 (ref22_Quality_L2 r0 n) password_0 user_1 n_5 k_6
def ref22_Quality_L1 : Nat → Str → Str → Int → Int → Option (Int)
  | 0, _, _, _, _ => none
  | n + 1, password_0, user_1, n_5, k_6 =>
    if decide (k_6 < 4) then
      ref22_Quality_L2 (ref22_Quality_L1 n) fuel password_0 user_1 n_5 k_6 false 0
    else
      Option.bind (if decide (n_5 < 3) then
          some true
        else
          Option.bind (if decide ((user_1.length : Int) ≥ 3) then
              (ref01_Lower password_0).bind fun y35 =>
                (ref01_Lower user_1).bind fun y39 =>
                  (ref22_contains y35 y39).bind fun y43 =>
                    some y43
            else
              some false
            ) fun z30 =>
            some z30
        ) fun z23 =>
        if z23 then
          some (11)
        else
          some (0)
def ref22_Quality (password_0 : Str) (user_1 : Str) : Option (Int) :=
  (ref22_Password password_0).bind fun y1 =>
    if !y1 then
      some (4)
    else
      ref22_Quality_L1 fuel password_0 user_1 0 0
def law22_SecretQuality (password_0 : Str) (user_1 : Str) : Option (Bool) :=
  if (decide ((password_0.length : Int) > 400)) || (decide ((user_1.length : Int) > 400)) then
    (law22_awake).bind fun y10 =>
      some (y10)
  else
    (secret_Quality password_0 user_1).bind fun y15 =>
      (ref22_Quality password_0 user_1).bind fun y20 =>
        Option.bind (if y15 == y20 then
            (law22_awake).bind fun y33 =>
              some y33
          else
            some false
          ) fun z27 =>
          some (z27)
end Go.KW.S
