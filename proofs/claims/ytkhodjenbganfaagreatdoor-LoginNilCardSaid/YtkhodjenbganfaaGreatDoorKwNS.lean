/- Own work: a part of the proofs of this seat. -/
import Derived.Test.YtkhodjenbganfaaGreatDoorKwMap3
import Derived.Test.YtkhodjenbganfaaGreatDoorKwSeg2
import Derived.Test.YtkhodjenbganfaaGreatDoorKwKeys
import Derived.Test.YtkhodjenbganfaaGreatDoorKwGlob
import Derived.Test.YtkhodjenbganfaaGreatDoorKwOffs
import Derived.Test.YtkhodjenbganfaaGreatDoorKwMapR
import Derived.Test.YtkhodjenbganfaaGreatDoorKwOpt
set_option linter.unusedVariables false
namespace Go.KW.S
open Go Go.KW
def tab_digest_digits : List Int := [48, 49, 50, 51, 52, 53, 54, 55, 56, 57, 97, 98, 99, 100, 101, 102]
structure law39_Op where
  Kind : Int
  ID : Str
  User : Str
  Word : Str
  Code : Str
  S : Str
  Level : Int
  Rounds : Int
  Now : Int
  deriving DecidableEq
def law39_Op.c : Cdc law39_Op := Cdc.flat 9 (fun x => [.int .i64 x.Kind, str x.ID, str x.User, str x.Word, str x.Code, str x.S, .int .i64 x.Level, .int .i64 x.Rounds, .int .i64 x.Now]) (fun _ => rfl) (fun _ u h => by simp at h; rcases h with rfl | rfl | rfl | rfl | rfl | rfl | rfl | rfl | rfl <;> rfl)
def law39_Op.eqb (x y : law39_Op) : Bool := (x.Kind == y.Kind) && (x.ID == y.ID) && (x.User == y.User) && (x.Word == y.Word) && (x.Code == y.Code) && (x.S == y.S) && (x.Level == y.Level) && (x.Rounds == y.Rounds) && (x.Now == y.Now)
structure api_Verifier where
  Salt : Str
  Rounds : Int
  Hash : Str
  deriving DecidableEq
def api_Verifier.c : Cdc api_Verifier := Cdc.flat 3 (fun x => [str x.Salt, .int .i64 x.Rounds, str x.Hash]) (fun _ => rfl) (fun _ u h => by simp at h; rcases h with rfl | rfl | rfl <;> rfl)
def api_Verifier.eqb (x y : api_Verifier) : Bool := (x.Salt == y.Salt) && (x.Rounds == y.Rounds) && (x.Hash == y.Hash)
structure login_credentials where
  verifier : api_Verifier
  code : Str
  deriving DecidableEq
def login_credentials.c : Cdc login_credentials := Cdc.flat 4 (fun x => [str x.verifier.Salt, .int .i64 x.verifier.Rounds, str x.verifier.Hash, str x.code]) (fun _ => rfl) (fun _ u h => by simp at h; rcases h with rfl | rfl | rfl | rfl <;> rfl)
def login_credentials.eqb (x y : login_credentials) : Bool := (x.verifier.Salt == y.verifier.Salt) && (x.verifier.Rounds == y.verifier.Rounds) && (x.verifier.Hash == y.verifier.Hash) && (x.code == y.code)
structure api_Proof where
  Factor : Int
  Time : Int
  deriving DecidableEq
def api_Proof.c : Cdc api_Proof := Cdc.flat 2 (fun x => [.int .i64 x.Factor, .int .i64 x.Time]) (fun _ => rfl) (fun _ u h => by simp at h; rcases h with rfl | rfl <;> rfl)
def api_Proof.eqb (x y : api_Proof) : Bool := (x.Factor == y.Factor) && (x.Time == y.Time)
structure login_attempt where
  user : Str
  begun : Int
  proofs : List api_Proof
  deriving DecidableEq
def login_attempt.c : Cdc login_attempt :=
  { size := 3, rd := fun A w cs x => ∃ v0, cs = [str x.user, .int .i64 x.begun, v0] ∧ SlR api_Proof.c A w v0 x.proofs
    len := fun h => by obtain ⟨_, h, _⟩ := h; rw [h]; rfl
    one := fun h u hu => by
      obtain ⟨v0, h, h0⟩ := h
      subst h
      simp at hu
      rcases hu with rfl | rfl | rfl
      all_goals first | rfl | exact SlR.oneCell (by assumption)
    step := fun h s => by
      obtain ⟨v0, h, h0⟩ := h
      exact ⟨v0, h, h0.step s⟩ }
structure secret_record where
  times : List Int
  until_ : Int
  deriving DecidableEq
def secret_record.c : Cdc secret_record :=
  { size := 2, rd := fun A w cs x => ∃ v0, cs = [v0, .int .i64 x.until_] ∧ SlR (intC .i64) A w v0 x.times
    len := fun h => by obtain ⟨_, h, _⟩ := h; rw [h]; rfl
    one := fun h u hu => by
      obtain ⟨v0, h, h0⟩ := h
      subst h
      simp at hu
      rcases hu with rfl | rfl
      all_goals first | rfl | exact SlR.oneCell (by assumption)
    step := fun h s => by
      obtain ⟨v0, h, h0⟩ := h
      exact ⟨v0, h, h0.step s⟩ }
def secret_record.O (τ : Nat → Nat) (ρ : Tags) (w : World) (g : Nat) (x : secret_record) : Prop := ∃ v0, Blk ρ (τ 0) w g (.cells #[v0, .int .i64 x.until_] 137 (0, 0)) ∧ OffT (intC .i64) 3 ρ (τ 1) w v0 x.times
theorem secret_record.objK : ObjK 2 secret_record.O := ⟨fun h hm h0 => by
  obtain ⟨v0, hB, h1⟩ := h
  exact ⟨v0, hB.mv (hm 0 (by decide)), h1.mv (hm 1 (by decide)) (h0 1 (by decide))⟩⟩
structure secret_Locks where
  most : Int
  window : Int
  lock : Int
  users : GMap Str secret_record
  deriving DecidableEq
def secret_Locks.O (τ : Nat → Nat) (ρ : Tags) (w : World) (g : Nat) (x : secret_Locks) : Prop := ∃ v0 p0, Blk ρ (τ 0) w g (.cells #[.int .i64 x.most, .int .i64 x.window, .int .i64 x.lock, v0] 134 (0, 0)) ∧ MapT str ptrC false ρ (τ 1) w v0 p0 ∧ Recs secret_record.O 2 ρ (τ 2) w p0 x.users
theorem secret_Locks.objK : ObjK 3 secret_Locks.O := ⟨fun h hm h0 => by
  obtain ⟨v0, p0, hB, h1, h2⟩ := h
  exact ⟨v0, p0, hB.mv (hm 0 (by decide)), h1.mv (hm 1 (by decide)), Recs.mv h2 secret_record.objK (hm 2 (by decide)) (h0 2 (by decide))⟩⟩
structure login_Logins where
  locks : Option secret_Locks
  users : GMap Str login_credentials
  counters : GMap Str Int
  attempts : GMap Str login_attempt
  deriving DecidableEq
def login_Logins.O (τ : Nat → Nat) (ρ : Tags) (w : World) (g : Nat) (x : login_Logins) : Prop := ∃ v0 v1 v2 v3, Blk ρ (τ 0) w g (.cells #[v0, v1, v2, v3] 69 (0, 0)) ∧ PtrO secret_Locks.O (fun q => τ (1 + q)) ρ w v0 x.locks ∧ MapT str login_credentials.c true ρ (τ 4) w v1 x.users ∧ MapT str (intC .i64) false ρ (τ 5) w v2 x.counters ∧ MapT str login_attempt.c true ρ (τ 6) w v3 x.attempts
theorem login_Logins.objK : ObjK 7 login_Logins.O := ⟨fun h hm h0 => by
  obtain ⟨v0, v1, v2, v3, hB, h1, h4, h5, h6⟩ := h
  exact ⟨v0, v1, v2, v3, hB.mv (hm 0 (by decide)), PtrO.mv h1 secret_Locks.objK (fun p hp => hm (1 + p) (by omega)) (fun p hp => h0 (1 + p) (by omega)), h4.mv (hm 4 (by decide)), h5.mv (hm 5 (by decide)), h6.mv (hm 6 (by decide))⟩⟩
def law39_few_L1 : Nat → List law39_Op → Int → Option (Bool)
  | 0, _, _ => none
  | n + 1, l_0, i_3 =>
    if decide (i_3 < (l_0.length : Int)) then
      (idx l_0 i_3).bind fun y4 =>
        if ((((decide ((y4.ID.length : Int) > 300)) || (decide ((y4.User.length : Int) > 300))) || (decide ((y4.Word.length : Int) > 300))) || (decide ((y4.Code.length : Int) > 300))) || (decide ((y4.S.length : Int) > 300)) then
          some (false)
        else
          (law39_few_L1 n) l_0 (IntKind.i64.wrap (i_3 + 1))
    else
      some (decide ((l_0.length : Int) ≤ 20))
def law39_few (l_0 : List law39_Op) : Option (Bool) :=
  law39_few_L1 fuel l_0 0
def clock_limited (t_0 : Int) : Option (Int) :=
  some (gmin (gmax t_0 0) 1099511627776)
def clock_Add (t_0 : Int) (d_1 : Int) : Option (Int) :=
  (clock_limited t_0).bind fun y1 =>
    (clock_limited d_1).bind fun y5 =>
      (clock_limited (IntKind.i64.wrap (y1 + y5))).bind fun y9 =>
        some (y9)
def secret_NewLocks (most_0 : Int) (window_1 : Int) (lock_2 : Int) : Option ((Option secret_Locks) × Int) :=
  (clock_Add window_1 0).bind fun y1 =>
    (clock_Add lock_2 0).bind fun y6 =>
      if (((decide (most_0 < 1)) || (decide (most_0 > 256))) || (decide (y1 < 1))) || (decide (y6 < 1)) then
        some (none, 2)
      else
        some (some (secret_Locks.mk most_0 y1 y6 (some [] : GMap Str secret_record)), 0)
def login_New (most_0 : Int) (window_1 : Int) (lock_2 : Int) : Option ((Option login_Logins) × Int) :=
  (secret_NewLocks most_0 window_1 lock_2).bind fun y1 =>
    optC y1.1 (
        if y1.2 != 0 then
          some (none, y1.2)
        else
          some (some (login_Logins.mk none (some [] : GMap Str login_credentials) (some [] : GMap Str Int) (some [] : GMap Str login_attempt)), 0))
      fun z9 =>
        if y1.2 != 0 then
          some (none, y1.2)
        else
          some (some (login_Logins.mk (some z9) (some [] : GMap Str login_credentials) (some [] : GMap Str Int) (some [] : GMap Str login_attempt)), 0)
def fold_upper (c_0 : Int) : Option (Bool) :=
  some ((decide (c_0 ≥ 65)) && (decide (c_0 ≤ 90)))
def fold_letter (c_0 : Int) : Option (Bool) :=
  (fold_upper c_0).bind fun y1 =>
    some (y1 || ((decide (c_0 ≥ 97)) && (decide (c_0 ≤ 122))))
def fold_digit (c_0 : Int) : Option (Bool) :=
  some ((decide (c_0 ≥ 48)) && (decide (c_0 ≤ 57)))
def fold_Word_1 (c_0 : Int) : Option (Bool) :=
  (fold_letter c_0).bind fun y1 =>
    Option.bind (if y1 then
        some true
      else
        (fold_digit c_0).bind fun y12 =>
          some y12
      ) fun z7 =>
      some ((((z7 || (c_0 == 45)) || (c_0 == 95)) || (c_0 == 46)) || (c_0 == 58))
def fold_made__Word_1_L1 : Nat → Str → Int → Int → Option (Bool)
  | 0, _, _, _ => none
  | n + 1, s_0, t_7, t_8 =>
    if decide (t_8 < t_7) then
      chk (inb t_8 s_0.length) (
        (fold_Word_1 (byteAt s_0 t_8)).bind fun y3 =>
          if !y3 then
            some (false)
          else
            (fold_made__Word_1_L1 n) s_0 t_7 (IntKind.i64.wrap (t_8 + 1)))
    else
      some ((!(s_0 == ([]))) && (decide ((s_0.length : Int) ≤ 64)))
def fold_made__Word_1 (s_0 : Str) : Option (Bool) :=
  fold_made__Word_1_L1 fuel s_0 (s_0.length : Int) 0
def fold_Word (s_0 : Str) : Option (Bool) :=
  (fold_made__Word_1 s_0).bind fun y1 =>
    some (y1)
def secret_isPassword_L1 : Nat → Str → Int → Int → Option (Bool)
  | 0, _, _, _ => none
  | n + 1, s_0, t_5, t_6 =>
    if decide (t_6 < t_5) then
      chk (inb t_6 s_0.length) (
        Option.bind (if decide ((byteAt s_0 t_6) < 32) then
            some true
          else
            chk (inb t_6 s_0.length) (
              some (decide ((byteAt s_0 t_6) > 126)))
          ) fun z5 =>
          if z5 then
            some (false)
          else
            (secret_isPassword_L1 n) s_0 t_5 (IntKind.i64.wrap (t_6 + 1)))
    else
      some ((decide ((s_0.length : Int) ≥ 8)) && (decide ((s_0.length : Int) ≤ 256)))
def secret_isPassword (s_0 : Str) : Option (Bool) :=
  secret_isPassword_L1 fuel s_0 (s_0.length : Int) 0
def digest_Sum_L1 : Nat → Str → Int → Int → Int → Option (Int)
  | 0, _, _, _, _ => none
  | n + 1, s_0, h_3, t_6, t_7 =>
    if decide (t_7 < t_6) then
      chk (inb t_7 s_0.length) (
        (digest_Sum_L1 n) s_0 (IntKind.u64.wrap ((bXor .u64 h_3 (IntKind.u64.wrap (byteAt s_0 t_7))) * 1099511628211)) t_6 (IntKind.i64.wrap (t_7 + 1)))
    else
      some (bXor .u64 (IntKind.u64.wrap ((bXor .u64 (IntKind.u64.wrap ((bXor .u64 h_3 (bShr .u64 h_3 33)) * 18397679294719823053)) (bShr .u64 (IntKind.u64.wrap ((bXor .u64 h_3 (bShr .u64 h_3 33)) * 18397679294719823053)) 33)) * 14181476777654086739)) (bShr .u64 (IntKind.u64.wrap ((bXor .u64 (IntKind.u64.wrap ((bXor .u64 h_3 (bShr .u64 h_3 33)) * 18397679294719823053)) (bShr .u64 (IntKind.u64.wrap ((bXor .u64 h_3 (bShr .u64 h_3 33)) * 18397679294719823053)) 33)) * 14181476777654086739)) 33))
def digest_Sum (s_0 : Str) : Option (Int) :=
  digest_Sum_L1 fuel s_0 14695981039346656037 (s_0.length : Int) 0
def digest_Hex_L1 : Nat → Int → List Int → Int → Option (Str)
  | 0, _, _, _ => none
  | n + 1, n_0, b_3, t_5 =>
    if decide (t_5 < 16) then
      chk (decide (0 ≤ IntKind.i64.wrap (4 * t_5))) (
        chk (inb (bAnd .u64 (bShr .u64 n_0 (IntKind.i64.wrap (4 * t_5))) 15) 16) (
          (idx tab_digest_digits (bAnd .u64 (bShr .u64 n_0 (IntKind.i64.wrap (4 * t_5))) 15)).bind fun y11 =>
            chk (inb (IntKind.i64.wrap (15 - t_5)) 16) (
              chk (inb (IntKind.i64.wrap (15 - t_5)) b_3.length) (
                (digest_Hex_L1 n) n_0 (setAt b_3 (IntKind.i64.wrap (15 - t_5)) y11) (IntKind.i64.wrap (t_5 + 1))))))
    else
      chk (b_3.length == 16) (
        some (bytesStr b_3))
def digest_Hex (n_0 : Int) : Option (Str) :=
  digest_Hex_L1 fuel n_0 ([0, 0, 0, 0, 0, 0, 0, 0, 0, 0, 0, 0, 0, 0, 0, 0]) 0
def digest_Text (s_0 : Str) : Option (Str) :=
  (digest_Sum s_0).bind fun y1 =>
    (digest_Hex y1).bind fun y5 =>
      some (y5)
def digest_Iterate_L1 : Nat → Str → Str → Int → Int → Option (Str)
  | 0, _, _, _, _ => none
  | n + 1, salt_0, h_7, t_15, t_16 =>
    if decide (t_16 < t_15) then
      chk (fitS h_7 ([124])) (
        chk (fitS (h_7 ++ ([124])) salt_0) (
          (digest_Text ((h_7 ++ ([124])) ++ salt_0)).bind fun y10 =>
            (digest_Iterate_L1 n) salt_0 y10 t_15 (IntKind.i64.wrap (t_16 + 1))))
    else
      some (h_7)
def digest_Iterate (salt_0 : Str) (s_1 : Str) (rounds_2 : Int) : Option (Str) :=
  chk (fitS salt_0 ([124])) (
    chk (fitS (salt_0 ++ ([124])) s_1) (
      (digest_Text ((salt_0 ++ ([124])) ++ s_1)).bind fun y3 =>
        digest_Iterate_L1 fuel salt_0 y3 (gmin (gmax rounds_2 0) 64) 0))
def secret_Make (password_0 : Str) (salt_1 : Str) (rounds_2 : Int) : Option (api_Verifier × Int) :=
  (fold_Word salt_1).bind fun y8 =>
    if ((!y8) || (decide (rounds_2 < 1))) || (decide (rounds_2 > 64)) then
      some ((api_Verifier.mk ([]) 0 ([])), 2)
    else
      (secret_isPassword password_0).bind fun y29 =>
        if !y29 then
          some ((api_Verifier.mk ([]) 0 ([])), 4)
        else
          (digest_Iterate salt_1 password_0 rounds_2).bind fun y36 =>
            some ((api_Verifier.mk salt_1 rounds_2 y36), 0)
def login_Logins_ready (l_0 : login_Logins) : Option (Bool) :=
  some (!l_0.users.isNone)
def digest_ReadHex_B3 (r0 : Str → Int → Int → Int → Option (Int × Int)) (r1 : Str → Int → Int → Int → Int → Int → Int → Option (Int × Int)) (s_0 : Str) (n_4 : Int) (i_5 : Int) (v_6 : Int) (t_13 : Int) (t_14 : Int) (t_18 : Int) : Option (Int × Int) :=
  r1 s_0 n_4 i_5 v_6 t_13 t_14 (IntKind.i64.wrap (t_18 + 1))
def digest_ReadHex_L2 (r0 : Str → Int → Int → Int → Option (Int × Int)) : Nat → Str → Int → Int → Int → Int → Int → Int → Option (Int × Int)
  | 0, _, _, _, _, _, _, _ => none
  | n + 1, s_0, n_4, i_5, v_6, t_13, t_14, t_18 =>
    if decide (t_18 < 16) then
      (idx tab_digest_digits t_18).bind fun y4 =>
        chk (inb i_5 s_0.length) (
          if y4 == (byteAt s_0 i_5) then
            digest_ReadHex_B3 r0 (digest_ReadHex_L2 r0 n) s_0 n_4 i_5 t_18 t_13 t_14 t_18
          else
            digest_ReadHex_B3 r0 (digest_ReadHex_L2 r0 n) s_0 n_4 i_5 v_6 t_13 t_14 t_18)
    else
      if decide (v_6 < 0) then
        some (0, 4)
      else
        r0 s_0 (bOr .u64 (bShl .u64 n_4 4) (IntKind.u64.wrap v_6)) t_13 (IntKind.i64.wrap (t_14 + 1))
def digest_ReadHex_L1 : Nat → Str → Int → Int → Int → Option (Int × Int)
  | 0, _, _, _, _ => none
  | n + 1, s_0, n_4, t_13, t_14 =>
    if decide (t_14 < t_13) then
      digest_ReadHex_L2 (digest_ReadHex_L1 n) fuel s_0 n_4 t_14 (-1) t_13 t_14 0
    else
      some (n_4, 0)
def digest_ReadHex (s_0 : Str) : Option (Int × Int) :=
  if (s_0.length : Int) != 16 then
    some (0, 4)
  else
    digest_ReadHex_L1 fuel s_0 0 (s_0.length : Int) 0
def secret_Valid (v_0 : api_Verifier) : Option (Bool) :=
  (digest_ReadHex v_0.Hash).bind fun y8 =>
    (fold_Word v_0.Salt).bind fun y12 =>
      some (((y12 && (decide (v_0.Rounds ≥ 1))) && (decide (v_0.Rounds ≤ 64))) && (y8.2 == 0))
def fold_Trim (s_0 : Str) : Option (Str) :=
  (lib_Trim s_0 ([32])).bind fun y1 =>
    some (y1)
def fold_Clean_L1 : Nat → Str → Str → Nat → Option (Bool)
  | 0, _, _, _ => none
  | n + 1, s_0, t_6s, t_6p =>
    if decide (t_6p < t_6s.length) then
      if (decide (((sdec t_6s t_6p).1) < 32)) || (decide (((sdec t_6s t_6p).1) > 126)) then
        some (false)
      else
        (fold_Clean_L1 n) s_0 t_6s (t_6p + (sdec t_6s t_6p).2)
    else
      Option.bind (if (!(s_0 == ([]))) && (decide ((s_0.length : Int) ≤ 256)) then
          (fold_Trim s_0).bind fun y33 =>
            some (y33 == s_0)
        else
          some false
        ) fun z28 =>
        some (z28)
def fold_Clean (s_0 : Str) : Option (Bool) :=
  fold_Clean_L1 fuel s_0 s_0 0
def login_Logins_Enroll (l_0 : login_Logins) (user_1 : Str) (v_2 : api_Verifier) (code_3 : Str) : Option (Int × login_Logins) :=
  (login_Logins_ready l_0).bind fun y15 =>
    if !y15 then
      some (1, l_0)
    else
      (some (mgetD l_0.users user_1 (login_credentials.mk (api_Verifier.mk ([]) 0 ([])) ([])))).bind fun y25 =>
        (fold_Word user_1).bind fun y34 =>
          if !y34 then
            some (5, l_0)
          else
            (secret_Valid v_2).bind fun y40 =>
              Option.bind (if !y40 then
                  some true
                else
                  Option.bind (if !(code_3 == ([])) then
                      (fold_Clean code_3).bind fun y61 =>
                        some (!y61)
                    else
                      some false
                    ) fun z55 =>
                    some z55
                ) fun z47 =>
                if z47 then
                  some (4, l_0)
                else
                  if (!(mhas l_0.users user_1)) && (decide ((mlen l_0.users) ≥ 256)) then
                    some (3, l_0)
                  else
                    chk l_0.users.isSome (
                      some (0, (login_Logins.mk l_0.locks (mput l_0.users user_1 (login_credentials.mk v_2 code_3)) l_0.counters l_0.attempts)))
def law39_ann (most_0 : Int) : Option (Option login_Logins) :=
  (login_New most_0 100 50).bind fun y1 =>
    optC y1.1 (
        (secret_Make ([115, 101, 99, 114, 101, 116, 119, 111, 114, 100]) ([115, 97, 108, 116]) 1).bind fun y83 =>
          some (none))
      fun z9 =>
        (secret_Make ([115, 101, 99, 114, 101, 116, 119, 111, 114, 100]) ([115, 97, 108, 116]) 1).bind fun y21 =>
          Option.bind (if ((y1.2 != 0) || (y21.2 != 0)) || false then
              some (true, z9)
            else
              (login_Logins_Enroll z9 ([97, 110, 110]) y21.1 ([115, 101, 101, 100])).bind fun y57 =>
                some (y57.1 != 0, y57.2)
            ) fun z51 =>
            if z51.1 then
              some (none)
            else
              some (some z51.2)
def clock_Sub (a_0 : Int) (b_1 : Int) : Option (Int) :=
  (clock_limited a_0).bind fun y1 =>
    (clock_limited b_1).bind fun y5 =>
      some (IntKind.i64.wrap (y1 - y5))
def login_attempt_expired (a_0 : login_attempt) (now_1 : Int) : Option (Bool) :=
  (clock_Sub now_1 a_0.begun).bind fun y8 =>
    some (decide (y8 ≥ 300))
def login_Logins_Open_B2 (r0 : Int → Int → List Str → login_Logins → Option (Int)) (now_1 : Int) (n_5 : Int) (t_15 : List Str) (ogl_0m : login_Logins) : Option (Int) :=
  r0 now_1 n_5 t_15 ogl_0m
def login_Logins_Open_L1 : Nat → Int → Int → List Str → login_Logins → Option (Int)
  | 0, _, _, _, _ => none
  | n + 1, now_1, n_5, t_15, ogl_0m =>
    pickAny (mleft ogl_0m.attempts t_15) (
        some (n_5))
      fun e30 =>
        (login_attempt_expired e30.2 now_1).bind fun y45 =>
          if !y45 then
            login_Logins_Open_B2 (login_Logins_Open_L1 n) now_1 (IntKind.i64.wrap (n_5 + 1)) (e30.1 :: t_15) ogl_0m
          else
            login_Logins_Open_B2 (login_Logins_Open_L1 n) now_1 n_5 (e30.1 :: t_15) ogl_0m
def login_Logins_Open (l_0 : login_Logins) (now_1 : Int) : Option (Int) :=
  (login_Logins_ready l_0).bind fun y10 =>
    if !y10 then
      some (0)
    else
      login_Logins_Open_L1 fuel now_1 0 ([] : List Str) l_0
def login_Logins_Begin_1 (__0 : Str) (a_1 : login_attempt) (c2 : Int) : Option (Bool) :=
  (login_attempt_expired a_1 c2).bind fun y10 =>
    some (y10)
def maps_DeleteFunc_map_string_login_attempt_string_login_attempt__Logins_Begin_1_B2 (r0 : GMap Str login_attempt → Int → List Str → Option (GMap Str login_attempt)) (m_0 : GMap Str login_attempt) (del_1_c0 : Int) (t_7 : List Str) : Option (GMap Str login_attempt) :=
  r0 m_0 del_1_c0 t_7
def maps_DeleteFunc_map_string_login_attempt_string_login_attempt__Logins_Begin_1_L1 : Nat → GMap Str login_attempt → Int → List Str → Option (GMap Str login_attempt)
  | 0, _, _, _ => none
  | n + 1, m_0, del_1_c0, t_7 =>
    pickAny (mleft m_0 t_7) (
        some (m_0))
      fun e10 =>
        (login_Logins_Begin_1 e10.1 e10.2 del_1_c0).bind fun y25 =>
          if y25 then
            maps_DeleteFunc_map_string_login_attempt_string_login_attempt__Logins_Begin_1_B2 (maps_DeleteFunc_map_string_login_attempt_string_login_attempt__Logins_Begin_1_L1 n) (mdel m_0 e10.1) del_1_c0 (e10.1 :: t_7)
          else
            maps_DeleteFunc_map_string_login_attempt_string_login_attempt__Logins_Begin_1_B2 (maps_DeleteFunc_map_string_login_attempt_string_login_attempt__Logins_Begin_1_L1 n) m_0 del_1_c0 (e10.1 :: t_7)
def maps_DeleteFunc_map_string_login_attempt_string_login_attempt__Logins_Begin_1 (m_0 : GMap Str login_attempt) (c1_0 : Int) : Option (GMap Str login_attempt) :=
  maps_DeleteFunc_map_string_login_attempt_string_login_attempt__Logins_Begin_1_L1 fuel m_0 c1_0 ([] : List Str)
def login_Logins_Begin (l_0 : login_Logins) (id_1 : Str) (user_2 : Str) (now_3 : Int) : Option (Int × login_Logins) :=
  (login_Logins_ready l_0).bind fun y15 =>
    if !y15 then
      some (1, l_0)
    else
      (some (mgetD l_0.attempts id_1 (login_attempt.mk ([]) 0 ([] : List api_Proof)))).bind fun y25 =>
        (fold_Word id_1).bind fun y36 =>
          Option.bind (if !y36 then
              some true
            else
              (fold_Word user_2).bind fun y49 =>
                some (!y49)
            ) fun z43 =>
            if z43 then
              some (5, l_0)
            else
              Option.bind (if mhas l_0.attempts id_1 then
                  (login_attempt_expired y25 now_3).bind fun y63 =>
                    some (!y63)
                else
                  some false
                ) fun z57 =>
                if z57 then
                  some (7, l_0)
                else
                  (login_Logins_Open l_0 now_3).bind fun y69 =>
                    if decide (y69 ≥ 256) then
                      some (3, l_0)
                    else
                      (maps_DeleteFunc_map_string_login_attempt_string_login_attempt__Logins_Begin_1 l_0.attempts now_3).bind fun y77 =>
                        (clock_Add now_3 0).bind fun y108 =>
                          chk y77.isSome (
                            some (0, (login_Logins.mk l_0.locks l_0.users l_0.counters (mput y77 id_1 (login_attempt.mk user_2 y108 ([] : List api_Proof))))))
def login_Logins_find (l_0 : login_Logins) (id_1 : Str) (now_2 : Int) : Option (login_attempt × Int) :=
  (login_Logins_ready l_0).bind fun y17 =>
    if !y17 then
      some ((login_attempt.mk ([]) 0 ([] : List api_Proof)), 1)
    else
      (some (mgetD l_0.attempts id_1 (login_attempt.mk ([]) 0 ([] : List api_Proof)))).bind fun y29 =>
        if !(mhas l_0.attempts id_1) then
          some ((login_attempt.mk ([]) 0 ([] : List api_Proof)), 6)
        else
          (login_attempt_expired y29 now_2).bind fun y43 =>
            if y43 then
              some ((login_attempt.mk ([]) 0 ([] : List api_Proof)), 13)
            else
              some (y29, 0)
def login_attempt_has_1 (p_0 : api_Proof) (c1 : Int) : Option (Bool) :=
  some (p_0.Factor == c1)
def slices_IndexFunc_api_Proof_api_Proof__attempt_has_1_L1 : Nat → List api_Proof → Int → Int → Int → Option (Int)
  | 0, _, _, _, _ => none
  | n + 1, s_0, f_1_c0, t_7, t_8 =>
    if decide (t_8 < t_7) then
      (idx s_0 t_8).bind fun y6 =>
        (login_attempt_has_1 y6 f_1_c0).bind fun y13 =>
          if y13 then
            some (t_8)
          else
            (slices_IndexFunc_api_Proof_api_Proof__attempt_has_1_L1 n) s_0 f_1_c0 t_7 (IntKind.i64.wrap (t_8 + 1))
    else
      some ((-1))
def slices_IndexFunc_api_Proof_api_Proof__attempt_has_1 (s_0 : List api_Proof) (c1_0 : Int) : Option (Int) :=
  slices_IndexFunc_api_Proof_api_Proof__attempt_has_1_L1 fuel s_0 c1_0 (s_0.length : Int) 0
def slices_ContainsFunc_api_Proof_api_Proof__attempt_has_1 (s_0 : List api_Proof) (c1_0 : Int) : Option (Bool) :=
  (slices_IndexFunc_api_Proof_api_Proof__attempt_has_1 s_0 c1_0).bind fun y5 =>
    some (decide (y5 ≥ 0))
def login_attempt_has (a_0 : login_attempt) (f_1 : Int) : Option (Bool) :=
  (slices_ContainsFunc_api_Proof_api_Proof__attempt_has_1 a_0.proofs f_1).bind fun y15 =>
    some (y15)
def secret_Locks_Locked (k_0 : secret_Locks) (user_1 : Str) (now_2 : Int) : Option (Bool) :=
  Option.bind (if !(mgetP k_0.users user_1).isNone then
      (clock_Add now_2 0).bind fun y15 =>
        (mgetP k_0.users user_1).bind fun y20 =>
          some (decide (y15 < y20.until_))
    else
      some false
    ) fun z10 =>
    some (z10)
def secret_Check (v_0 : api_Verifier) (password_1 : Str) : Option (Bool) :=
  (secret_Valid v_0).bind fun y10 =>
    Option.bind (if y10 then
        (secret_isPassword password_1).bind fun y21 =>
          some y21
      else
        some false
      ) fun z16 =>
      Option.bind (if z16 then
          (digest_Iterate v_0.Salt password_1 v_0.Rounds).bind fun y32 =>
            some (v_0.Hash == y32)
        else
          some false
        ) fun z27 =>
        some (z27)
def secret_Locks_Clear (k_0 : secret_Locks) (user_1 : Str) : Option (secret_Locks) :=
  some ((secret_Locks.mk k_0.most k_0.window k_0.lock (mdel k_0.users user_1)))
def secret_Locks_Clear__nil (user_1 : Str) : Option (Unit) :=
  some ()
def login_Logins_byPassword (l_0 : login_Logins) (user_1 : Str) (password_2 : Str) (now_3 : Int) : Option (Bool × login_Logins) :=
  (some (mgetD l_0.users user_1 (login_credentials.mk (api_Verifier.mk ([]) 0 ([])) ([])))).bind fun y14 =>
    Option.bind (if !(mhas l_0.users user_1) then
        some true
      else
        (secret_Check y14.verifier password_2).bind fun y31 =>
          some (!y31)
      ) fun z25 =>
      if z25 then
        some (false, l_0)
      else
        optC l_0.locks (
            (secret_Locks_Clear__nil user_1).bind fun y56 =>
              some (true, (login_Logins.mk none l_0.users l_0.counters l_0.attempts)))
          fun z37 =>
            (secret_Locks_Clear z37 user_1).bind fun y45 =>
              some (true, (login_Logins.mk (some y45) l_0.users l_0.counters l_0.attempts))
def secret_Locks_count_B2 (r0 : secret_Locks → Int → Int → List Int → Int → Int → Option (Int)) (ok_0 : secret_Locks) (now_2 : Int) (n_7 : Int) (t_13 : List Int) (t_14 : Int) (t_15 : Int) : Option (Int) :=
  r0 ok_0 now_2 n_7 t_13 t_14 (IntKind.i64.wrap (t_15 + 1))
def secret_Locks_count_L1 : Nat → secret_Locks → Int → Int → List Int → Int → Int → Option (Int)
  | 0, _, _, _, _, _, _ => none
  | n + 1, ok_0, now_2, n_7, t_13, t_14, t_15 =>
    if decide (t_15 < t_14) then
      (idx t_13 t_15).bind fun y15 =>
        if (decide (y15 ≤ now_2)) && (decide ((IntKind.i64.wrap (now_2 - y15)) < ok_0.window)) then
          secret_Locks_count_B2 (secret_Locks_count_L1 n) ok_0 now_2 (IntKind.i64.wrap (n_7 + 1)) t_13 t_14 t_15
        else
          secret_Locks_count_B2 (secret_Locks_count_L1 n) ok_0 now_2 n_7 t_13 t_14 t_15
    else
      some (n_7)
def secret_Locks_count (k_0 : secret_Locks) (r_1 : secret_record) (now_2 : Int) : Option (Int) :=
  secret_Locks_count_L1 fuel k_0 now_2 0 r_1.times (r_1.times.length : Int) 0
def secret_Locks_Fail_B2 (ok_0 : secret_Locks) (t_7 : Int) (locked_8 : Bool) (r_6k : Str) : Option (secret_Locks) :=
  Option.bind (if locked_8 then
      some true
    else
      (mgetP ok_0.users r_6k).bind fun y93 =>
        (secret_Locks_count ok_0 y93 t_7).bind fun y100 =>
          some (decide (y100 ≥ ok_0.most))
    ) fun z88 =>
    if z88 then
      (mgetP ok_0.users r_6k).bind fun y107 =>
        (clock_Add t_7 ok_0.lock).bind fun y153 =>
          some ((secret_Locks.mk ok_0.most ok_0.window ok_0.lock (mput ok_0.users r_6k (secret_record.mk y107.times (gmax y107.until_ y153)))))
    else
      some (ok_0)
def secret_Locks_Fail_B1 (ok_0 : secret_Locks) (now_2 : Int) (r_6k : Str) : Option (secret_Locks) :=
  (clock_Add now_2 0).bind fun y41 =>
    (mgetP ok_0.users r_6k).bind fun y46 =>
      chk (fitL y46.times.length ([y41] : List Int).length) (
        if decide (((y46.times ++ ([y41] : List Int)).length : Int) > 256) then
          chk (inc 1 ((y46.times ++ ([y41] : List Int)).length) (y46.times ++ ([y41] : List Int)).length) (
            secret_Locks_Fail_B2 (secret_Locks.mk ok_0.most ok_0.window ok_0.lock (mput ok_0.users r_6k (secret_record.mk (cut (y46.times ++ ([y41] : List Int)) 1 ((y46.times ++ ([y41] : List Int)).length)) y46.until_))) y41 (decide (y41 < y46.until_)) r_6k)
        else
          secret_Locks_Fail_B2 (secret_Locks.mk ok_0.most ok_0.window ok_0.lock (mput ok_0.users r_6k (secret_record.mk (y46.times ++ ([y41] : List Int)) y46.until_))) y41 (decide (y41 < y46.until_)) r_6k)
def secret_Locks_Fail (k_0 : secret_Locks) (user_1 : Str) (now_2 : Int) : Option (secret_Locks) :=
  Option.bind (if k_0.users.isNone then
      some true
    else
      (fold_Word user_1).bind fun y14 =>
        some (!y14)
    ) fun z8 =>
    if z8 then
      some (k_0)
    else
      if (mgetP k_0.users user_1).isNone then
        if decide ((mlen k_0.users) ≥ 256) then
          some (k_0)
        else
          chk k_0.users.isSome (
            secret_Locks_Fail_B1 (secret_Locks.mk k_0.most k_0.window k_0.lock (mput (mput k_0.users user_1 (secret_record.mk ([] : List Int) 0)) user_1 (secret_record.mk ([] : List Int) 0))) now_2 user_1)
      else
        secret_Locks_Fail_B1 k_0 now_2 user_1
def secret_Locks_Fail__nil (user_1 : Str) (now_2 : Int) : Option (Unit) :=
  some ()
def slices_Clone_api_Proof_api_Proof (s_0 : List api_Proof) : Option (List api_Proof) :=
  chk (fitL ([] : List api_Proof).length s_0.length) (
    some (([] : List api_Proof) ++ s_0))
def secret_Locks_Locked__nil (user_1 : Str) (now_2 : Int) : Option (Bool) :=
  some (false)
def login_Logins_present__Logins_byPassword (l_0 : login_Logins) (id_1 : Str) (text_2 : Str) (now_3 : Int) (f_4 : Int) : Option (Int × login_Logins) :=
  (login_Logins_find l_0 id_1 now_3).bind fun y10 =>
    if y10.2 != 0 then
      some (y10.2, l_0)
    else
      (login_attempt_has y10.1 f_4).bind fun y25 =>
        if y25 then
          some (12, l_0)
        else
          optC l_0.locks (
              (secret_Locks_Locked__nil y10.1.user now_3).bind fun y191 =>
                (login_Logins_byPassword l_0 y10.1.user text_2 now_3).bind fun y197 =>
                  if !y197.1 then
                    optC y197.2.locks (
                        (secret_Locks_Fail__nil y10.1.user now_3).bind fun y287 =>
                          some (11, (login_Logins.mk none y197.2.users y197.2.counters y197.2.attempts)))
                      fun z268 =>
                        (secret_Locks_Fail z268 y10.1.user now_3).bind fun y276 =>
                          some (11, (login_Logins.mk (some y276) y197.2.users y197.2.counters y197.2.attempts))
                  else
                    (slices_Clone_api_Proof_api_Proof y10.1.proofs).bind fun y292 =>
                      (clock_Add now_3 0).bind fun y300 =>
                        chk (fitL y292.length ([(api_Proof.mk f_4 y300)] : List api_Proof).length) (
                          chk y197.2.attempts.isSome (
                            some (0, (login_Logins.mk y197.2.locks y197.2.users y197.2.counters (mput y197.2.attempts id_1 (login_attempt.mk y10.1.user y10.1.begun (y292 ++ ([(api_Proof.mk f_4 y300)] : List api_Proof)))))))))
            fun z33 =>
              (secret_Locks_Locked z33 y10.1.user now_3).bind fun y41 =>
                if y41 then
                  some (22, l_0)
                else
                  (login_Logins_byPassword l_0 y10.1.user text_2 now_3).bind fun y48 =>
                    if !y48.1 then
                      optC y48.2.locks (
                          (secret_Locks_Fail__nil y10.1.user now_3).bind fun y138 =>
                            some (11, (login_Logins.mk none y48.2.users y48.2.counters y48.2.attempts)))
                        fun z119 =>
                          (secret_Locks_Fail z119 y10.1.user now_3).bind fun y127 =>
                            some (11, (login_Logins.mk (some y127) y48.2.users y48.2.counters y48.2.attempts))
                    else
                      (slices_Clone_api_Proof_api_Proof y10.1.proofs).bind fun y143 =>
                        (clock_Add now_3 0).bind fun y151 =>
                          chk (fitL y143.length ([(api_Proof.mk f_4 y151)] : List api_Proof).length) (
                            chk y48.2.attempts.isSome (
                              some (0, (login_Logins.mk y48.2.locks y48.2.users y48.2.counters (mput y48.2.attempts id_1 (login_attempt.mk y10.1.user y10.1.begun (y143 ++ ([(api_Proof.mk f_4 y151)] : List api_Proof))))))))
def login_Logins_Password (l_0 : login_Logins) (id_1 : Str) (password_2 : Str) (now_3 : Int) : Option (Int × login_Logins) :=
  (login_Logins_present__Logins_byPassword l_0 id_1 password_2 now_3 1).bind fun y10 =>
    some (y10.1, y10.2)
def strength_ordinary : Option (List Int) :=
  some (([1, 2, 3] : List Int))
def strength_has_1 (p_0 : api_Proof) (c1 : Int) : Option (Bool) :=
  some (p_0.Factor == c1)
def slices_IndexFunc_api_Proof_api_Proof__has_1_L1 : Nat → List api_Proof → Int → Int → Int → Option (Int)
  | 0, _, _, _, _ => none
  | n + 1, s_0, f_1_c0, t_7, t_8 =>
    if decide (t_8 < t_7) then
      (idx s_0 t_8).bind fun y6 =>
        (strength_has_1 y6 f_1_c0).bind fun y13 =>
          if y13 then
            some (t_8)
          else
            (slices_IndexFunc_api_Proof_api_Proof__has_1_L1 n) s_0 f_1_c0 t_7 (IntKind.i64.wrap (t_8 + 1))
    else
      some ((-1))
def slices_IndexFunc_api_Proof_api_Proof__has_1 (s_0 : List api_Proof) (c1_0 : Int) : Option (Int) :=
  slices_IndexFunc_api_Proof_api_Proof__has_1_L1 fuel s_0 c1_0 (s_0.length : Int) 0
def slices_ContainsFunc_api_Proof_api_Proof__has_1 (s_0 : List api_Proof) (c1_0 : Int) : Option (Bool) :=
  (slices_IndexFunc_api_Proof_api_Proof__has_1 s_0 c1_0).bind fun y5 =>
    some (decide (y5 ≥ 0))
def strength_has (l_0 : List api_Proof) (f_1 : Int) : Option (Bool) :=
  (slices_ContainsFunc_api_Proof_api_Proof__has_1 l_0 f_1).bind fun y10 =>
    some (y10)
def strength_count_B2 (r0 : List api_Proof → Int → List Int → Int → Option (Int)) (l_0 : List api_Proof) (n_3 : Int) (t_6 : List Int) (t_7 : Int) : Option (Int) :=
  r0 l_0 n_3 t_6 (IntKind.i64.wrap (t_7 + 1))
def strength_count_L1 : Nat → List api_Proof → Int → List Int → Int → Option (Int)
  | 0, _, _, _, _ => none
  | n + 1, l_0, n_3, t_6, t_7 =>
    if decide (t_7 < 3) then
      chk (t_6.length == 3) (
        (idx t_6 t_7).bind fun y10 =>
          (strength_has l_0 y10).bind fun y12 =>
            if y12 then
              strength_count_B2 (strength_count_L1 n) l_0 (IntKind.i64.wrap (n_3 + 1)) t_6 t_7
            else
              strength_count_B2 (strength_count_L1 n) l_0 n_3 t_6 t_7)
    else
      some (n_3)
def strength_count (l_0 : List api_Proof) : Option (Int) :=
  (strength_ordinary).bind fun y3 =>
    strength_count_L1 fuel l_0 0 y3 0
def strength_Level (l_0 : List api_Proof) : Option (Int) :=
  (strength_count l_0).bind fun y3 =>
    Option.bind (if decide (y3 > 0) then
        some true
      else
        (strength_has l_0 4).bind fun y16 =>
          some (!y16)
      ) fun z10 =>
      if z10 then
        some (y3)
      else
        some (1)
def login_Logins_Finish (l_0 : login_Logins) (id_1 : Str) (level_2 : Int) (now_3 : Int) : Option (Str × (List api_Proof) × Int × login_Logins) :=
  (login_Logins_find l_0 id_1 now_3).bind fun y12 =>
    if y12.2 != 0 then
      some ([], ([] : List api_Proof), y12.2, l_0)
    else
      (strength_Level y12.1.proofs).bind fun y27 =>
        if decide (y27 < level_2) then
          some ([], ([] : List api_Proof), 21, l_0)
        else
          (slices_Clone_api_Proof_api_Proof y12.1.proofs).bind fun y58 =>
            some (y12.1.user, y58, 0, (login_Logins.mk l_0.locks l_0.users l_0.counters (mdel l_0.attempts id_1)))
def codec_Int (n_0 : Int) : Option (Str) :=
  (lib_Itoa n_0).bind fun y1 =>
    some (y1)
def digest_Mac (key_0 : Str) (s_1 : Str) : Option (Str) :=
  (lib_Itoa (key_0.length : Int)).bind fun y1 =>
    chk (fitS y1 ([58])) (
      chk (fitS (y1 ++ ([58])) key_0) (
        chk (fitS ((y1 ++ ([58])) ++ key_0) s_1) (
          (digest_Text (((y1 ++ ([58])) ++ key_0) ++ s_1)).bind fun y8 =>
            chk (fitS ((y1 ++ ([58])) ++ key_0) y8) (
              (digest_Text (((y1 ++ ([58])) ++ key_0) ++ y8)).bind fun y13 =>
                some (y13)))))
def otp_code_L1 : Nat → Int → List Int → Int → Option (Str)
  | 0, _, _, _ => none
  | n + 1, n_5, out_6, t_15 =>
    if decide (t_15 < 6) then
      chk (inb (IntKind.i64.wrap (5 - t_15)) 6) (
        chk (inb (IntKind.i64.wrap (5 - t_15)) out_6.length) (
          (otp_code_L1 n) (IntKind.u64.wrap (n_5.tdiv 10)) (setAt out_6 (IntKind.i64.wrap (5 - t_15)) (IntKind.u8.wrap (IntKind.u64.wrap (48 + (Int.tmod n_5 10))))) (IntKind.i64.wrap (t_15 + 1))))
    else
      chk (out_6.length == 6) (
        some (bytesStr out_6))
def otp_code (secret_0 : Str) (counter_1 : Int) : Option (Str) :=
  (codec_Int counter_1).bind fun y1 =>
    (digest_Mac secret_0 y1).bind fun y5 =>
      (digest_Sum y5).bind fun y9 =>
        otp_code_L1 fuel (Int.tmod y9 1000000) ([0, 0, 0, 0, 0, 0]) 0
def otp_Code (secret_0 : Str) (counter_1 : Int) : Option (Str × Int) :=
  (fold_Clean secret_0).bind fun y1 =>
    if !y1 then
      some ([], 4)
    else
      if (decide (counter_1 < 0)) || (decide (counter_1 > 36650387592)) then
        some ([], 27)
      else
        (otp_code secret_0 counter_1).bind fun y14 =>
          some (y14, 0)
def login_Logins_last (l_0 : login_Logins) (user_1 : Str) : Option (Int) :=
  (some (mgetD l_0.counters user_1 0)).bind fun y14 =>
    if !(mhas l_0.counters user_1) then
      some ((-1))
    else
      some (y14)
def otp_six_1 (c_0 : Int) : Option (Bool) :=
  some ((decide (c_0 < 48)) || (decide (c_0 > 57)))
def slices_IndexFunc_byte_byte__six_1_L1 : Nat → List Int → Int → Int → Option (Int)
  | 0, _, _, _ => none
  | n + 1, s_0, t_7, t_8 =>
    if decide (t_8 < t_7) then
      (idx s_0 t_8).bind fun y4 =>
        (otp_six_1 y4).bind fun y10 =>
          if y10 then
            some (t_8)
          else
            (slices_IndexFunc_byte_byte__six_1_L1 n) s_0 t_7 (IntKind.i64.wrap (t_8 + 1))
    else
      some ((-1))
def slices_IndexFunc_byte_byte__six_1 (s_0 : List Int) : Option (Int) :=
  slices_IndexFunc_byte_byte__six_1_L1 fuel s_0 (s_0.length : Int) 0
def slices_ContainsFunc_byte_byte__six_1 (s_0 : List Int) : Option (Bool) :=
  (slices_IndexFunc_byte_byte__six_1 s_0).bind fun y3 =>
    some (decide (y3 ≥ 0))
def otp_six (s_0 : Str) : Option (Bool) :=
  Option.bind (if (s_0.length : Int) == 6 then
      chk (fitS s_0 []) (
        (slices_ContainsFunc_byte_byte__six_1 (strBytes s_0)).bind fun y19 =>
          some (!y19))
    else
      some false
    ) fun z3 =>
    some (z3)
def otp_form (secret_0 : Str) (s_1 : Str) : Option (Int) :=
  (fold_Clean secret_0).bind fun y1 =>
    Option.bind (if !y1 then
        some true
      else
        (otp_six s_1).bind fun y12 =>
          some (!y12)
      ) fun z7 =>
      if z7 then
        some (4)
      else
        some (0)
def otp_Counter (now_0 : Int) : Option (Int) :=
  (clock_Add now_0 0).bind fun y1 =>
    some (IntKind.i64.wrap (y1.tdiv 30))
def otp_VerifyAt_1 (c_0 : Int) (c1 : Str) (c2 : Str) : Option (Bool) :=
  (otp_code c1 c_0).bind fun y7 =>
    some (y7 == c2)
def otp_search__VerifyAt_1_L1 : Nat → Int → Str → Str → Int → Option (Int × Int)
  | 0, _, _, _, _ => none
  | n + 1, to_1, is_2_c0, is_2_c1, c_8 =>
    if decide (c_8 ≤ (gmin to_1 36650387592)) then
      (otp_VerifyAt_1 c_8 is_2_c0 is_2_c1).bind fun y6 =>
        if y6 then
          some (c_8, 0)
        else
          (otp_search__VerifyAt_1_L1 n) to_1 is_2_c0 is_2_c1 (IntKind.i64.wrap (c_8 + 1))
    else
      some (0, 11)
def otp_search__VerifyAt_1 (from_0 : Int) (to_1 : Int) (c2_0 : Str) (c2_1 : Str) : Option (Int × Int) :=
  otp_search__VerifyAt_1_L1 fuel to_1 c2_0 c2_1 (gmax from_0 0)
def otp_VerifyAt (secret_0 : Str) (last_1 : Int) (now_2 : Int) (skew_3 : Int) (s_4 : Str) : Option (Int × Int) :=
  (otp_form secret_0 s_4).bind fun y11 =>
    if y11 != 0 then
      some (0, y11)
    else
      if (decide (last_1 < (-1))) || (decide (last_1 > 36650387592)) then
        some (0, 27)
      else
        (otp_Counter now_2).bind fun y26 =>
          (otp_Counter now_2).bind fun y31 =>
            (otp_search__VerifyAt_1 (gmax (IntKind.i64.wrap (last_1 + 1)) (IntKind.i64.wrap (y26 - (IntKind.i64.wrap ((gmin (gmax skew_3 0) 600).tdiv 30))))) (IntKind.i64.wrap (y31 + (IntKind.i64.wrap ((gmin (gmax skew_3 0) 600).tdiv 30)))) secret_0 s_4).bind fun y40 =>
              some (y40.1, y40.2)
def login_Logins_byCode (l_0 : login_Logins) (user_1 : Str) (code_2 : Str) (now_3 : Int) : Option (Bool × login_Logins) :=
  (some (mgetD l_0.users user_1 (login_credentials.mk (api_Verifier.mk ([]) 0 ([])) ([])))).bind fun y14 =>
    if (!(mhas l_0.users user_1)) || (y14.code == ([])) then
      some (false, l_0)
    else
      (login_Logins_last l_0 user_1).bind fun y34 =>
        (otp_VerifyAt y14.code y34 now_3 60 code_2).bind fun y39 =>
          if y39.2 != 0 then
            some (false, l_0)
          else
            chk l_0.counters.isSome (
              some (true, (login_Logins.mk l_0.locks l_0.users (mput l_0.counters user_1 y39.1) l_0.attempts)))
def login_Logins_present__Logins_byCode (l_0 : login_Logins) (id_1 : Str) (text_2 : Str) (now_3 : Int) (f_4 : Int) : Option (Int × login_Logins) :=
  (login_Logins_find l_0 id_1 now_3).bind fun y10 =>
    if y10.2 != 0 then
      some (y10.2, l_0)
    else
      (login_attempt_has y10.1 f_4).bind fun y25 =>
        if y25 then
          some (12, l_0)
        else
          optC l_0.locks (
              (secret_Locks_Locked__nil y10.1.user now_3).bind fun y191 =>
                (login_Logins_byCode l_0 y10.1.user text_2 now_3).bind fun y197 =>
                  if !y197.1 then
                    optC y197.2.locks (
                        (secret_Locks_Fail__nil y10.1.user now_3).bind fun y287 =>
                          some (11, (login_Logins.mk none y197.2.users y197.2.counters y197.2.attempts)))
                      fun z268 =>
                        (secret_Locks_Fail z268 y10.1.user now_3).bind fun y276 =>
                          some (11, (login_Logins.mk (some y276) y197.2.users y197.2.counters y197.2.attempts))
                  else
                    (slices_Clone_api_Proof_api_Proof y10.1.proofs).bind fun y292 =>
                      (clock_Add now_3 0).bind fun y300 =>
                        chk (fitL y292.length ([(api_Proof.mk f_4 y300)] : List api_Proof).length) (
                          chk y197.2.attempts.isSome (
                            some (0, (login_Logins.mk y197.2.locks y197.2.users y197.2.counters (mput y197.2.attempts id_1 (login_attempt.mk y10.1.user y10.1.begun (y292 ++ ([(api_Proof.mk f_4 y300)] : List api_Proof)))))))))
            fun z33 =>
              (secret_Locks_Locked z33 y10.1.user now_3).bind fun y41 =>
                if y41 then
                  some (22, l_0)
                else
                  (login_Logins_byCode l_0 y10.1.user text_2 now_3).bind fun y48 =>
                    if !y48.1 then
                      optC y48.2.locks (
                          (secret_Locks_Fail__nil y10.1.user now_3).bind fun y138 =>
                            some (11, (login_Logins.mk none y48.2.users y48.2.counters y48.2.attempts)))
                        fun z119 =>
                          (secret_Locks_Fail z119 y10.1.user now_3).bind fun y127 =>
                            some (11, (login_Logins.mk (some y127) y48.2.users y48.2.counters y48.2.attempts))
                    else
                      (slices_Clone_api_Proof_api_Proof y10.1.proofs).bind fun y143 =>
                        (clock_Add now_3 0).bind fun y151 =>
                          chk (fitL y143.length ([(api_Proof.mk f_4 y151)] : List api_Proof).length) (
                            chk y48.2.attempts.isSome (
                              some (0, (login_Logins.mk y48.2.locks y48.2.users y48.2.counters (mput y48.2.attempts id_1 (login_attempt.mk y10.1.user y10.1.begun (y143 ++ ([(api_Proof.mk f_4 y151)] : List api_Proof))))))))
def login_Logins_Code (l_0 : login_Logins) (id_1 : Str) (code_2 : Str) (now_3 : Int) : Option (Int × login_Logins) :=
  (login_Logins_present__Logins_byCode l_0 id_1 code_2 now_3 2).bind fun y10 =>
    some (y10.1, y10.2)
def login_Logins_Locked (l_0 : login_Logins) (user_1 : Str) (now_2 : Int) : Option (Bool) :=
  (login_Logins_ready l_0).bind fun y10 =>
    Option.bind (if y10 then
        optC l_0.locks (
            (secret_Locks_Locked__nil user_1 now_2).bind fun y36 =>
              some false)
          fun z23 =>
            (secret_Locks_Locked z23 user_1 now_2).bind fun y31 =>
              some y31
      else
        some false
      ) fun z17 =>
      some (z17)
def law39_alive : Option (Bool) :=
  (law39_ann 5).bind fun y1 =>
    optC y1 (
        (law39_ann 2).bind fun y555 =>
          optC y555 (
              some (false))
            fun z563 =>
              some (false))
      fun z9 =>
        (law39_ann 2).bind fun y21 =>
          optC y21 (
              some (false))
            fun z29 =>
              (login_Logins_Begin z9 ([97, 49]) ([97, 110, 110]) 0).bind fun y41 =>
                (login_Logins_Begin y41.2 ([97, 49]) ([98, 111, 98]) 299).bind fun y56 =>
                  (login_Logins_Password y56.2 ([97, 49]) ([119, 114, 111, 110, 103, 119, 111, 114, 100]) 1).bind fun y71 =>
                    (login_Logins_Password y71.2 ([97, 49]) ([115, 101, 99, 114, 101, 116, 119, 111, 114, 100]) 2).bind fun y86 =>
                      (login_Logins_Password y86.2 ([97, 49]) ([115, 101, 99, 114, 101, 116, 119, 111, 114, 100]) 3).bind fun y101 =>
                        (login_Logins_Finish y101.2 ([97, 49]) 2 4).bind fun y116 =>
                          (login_Logins_Finish y116.2.2.2 ([97, 49]) 1 5).bind fun y133 =>
                            (login_Logins_Finish y133.2.2.2 ([97, 49]) 0 6).bind fun y150 =>
                              (login_Logins_Begin z29 ([120]) ([97, 110, 110]) 0).bind fun y167 =>
                                (login_Logins_Begin y167.2 ([121]) ([97, 110, 110]) 0).bind fun y182 =>
                                  (login_Logins_Password y182.2 ([120]) ([119, 114, 111, 110, 103, 119, 111, 114, 100]) 0).bind fun y197 =>
                                    (login_Logins_Password y197.2 ([120]) ([119, 114, 111, 110, 103, 119, 111, 114, 100]) 0).bind fun y212 =>
                                      (login_Logins_Password y212.2 ([120]) ([115, 101, 99, 114, 101, 116, 119, 111, 114, 100]) 0).bind fun y227 =>
                                        (otp_Code ([115, 101, 101, 100]) 0).bind fun y242 =>
                                          (login_Logins_Begin y150.2.2.2 ([98]) ([97, 110, 110]) 0).bind fun y247 =>
                                            (login_Logins_Code y247.2 ([98]) y242.1 0).bind fun y262 =>
                                              (login_Logins_Begin y262.2 ([99]) ([97, 110, 110]) 0).bind fun y277 =>
                                                (otp_Code ([115, 101, 101, 100]) 1).bind fun y292 =>
                                                  (otp_Code ([115, 101, 101, 100]) 2).bind fun y297 =>
                                                    (login_Logins_Code y277.2 ([99]) y242.1 0).bind fun y302 =>
                                                      Option.bind (if ((((((((((y302.1 == 11) || ((y302.1 == 0) && ((y292.1 == y242.1) || (y297.1 == y242.1)))) && (y41.1 == 0)) && (y56.1 == 7)) && (y71.1 == 11)) && (y86.1 == 0)) && (y101.1 == 12)) && (y116.2.2.1 == 21)) && (y133.2.2.1 == 0)) && (y133.1 == ([97, 110, 110]))) && ((y133.2.1.length : Int) == 1) then
                                                          (idx y133.2.1 0).bind fun y421 =>
                                                            some (api_Proof.eqb y421 (api_Proof.mk 1 2))
                                                        else
                                                          some false
                                                        ) fun z415 =>
                                                        Option.bind (if ((((((z415 && (y150.2.2.1 == 6)) && (y197.1 == 11)) && (y212.1 == 11)) && (y227.1 == 22)) && (y242.2 == 0)) && (y247.1 == 0)) && (y262.1 == 0) then
                                                            (login_Logins_Password y227.2 ([121]) ([115, 101, 99, 114, 101, 116, 119, 111, 114, 100]) 300).bind fun y492 =>
                                                              some (y492.1 == 13, y492.2)
                                                          else
                                                            some (false, y227.2)
                                                          ) fun z486 =>
                                                          Option.bind (if z486.1 then
                                                              (login_Logins_Open z486.2 0).bind fun y524 =>
                                                                some (y524 == 2)
                                                            else
                                                              some false
                                                            ) fun z518 =>
                                                            Option.bind (if z518 then
                                                                (login_Logins_Open z486.2 300).bind fun y537 =>
                                                                  some (y537 == 0)
                                                              else
                                                                some false
                                                              ) fun z531 =>
                                                              Option.bind (if z531 then
                                                                  (login_Logins_Locked z486.2 ([97, 110, 110]) 0).bind fun y550 =>
                                                                    some y550
                                                                else
                                                                  some false
                                                                ) fun z544 =>
                                                                some (z544)
def law39_verifier (o_0 : law39_Op) : Option (api_Verifier) :=
  (secret_Make o_0.Word ([115, 97, 108, 116]) (gmax 0 (gmin o_0.Rounds 3))).bind fun y15 =>
    some (y15.1)
def login_Logins_Drop_1 (__0 : Str) (a_1 : login_attempt) (c2 : Str) : Option (Bool) :=
  some (a_1.user == c2)
def maps_DeleteFunc_map_string_login_attempt_string_login_attempt__Logins_Drop_1_B2 (r0 : GMap Str login_attempt → Str → List Str → Option (GMap Str login_attempt)) (m_0 : GMap Str login_attempt) (del_1_c0 : Str) (t_7 : List Str) : Option (GMap Str login_attempt) :=
  r0 m_0 del_1_c0 t_7
def maps_DeleteFunc_map_string_login_attempt_string_login_attempt__Logins_Drop_1_L1 : Nat → GMap Str login_attempt → Str → List Str → Option (GMap Str login_attempt)
  | 0, _, _, _ => none
  | n + 1, m_0, del_1_c0, t_7 =>
    pickAny (mleft m_0 t_7) (
        some (m_0))
      fun e10 =>
        (login_Logins_Drop_1 e10.1 e10.2 del_1_c0).bind fun y25 =>
          if y25 then
            maps_DeleteFunc_map_string_login_attempt_string_login_attempt__Logins_Drop_1_B2 (maps_DeleteFunc_map_string_login_attempt_string_login_attempt__Logins_Drop_1_L1 n) (mdel m_0 e10.1) del_1_c0 (e10.1 :: t_7)
          else
            maps_DeleteFunc_map_string_login_attempt_string_login_attempt__Logins_Drop_1_B2 (maps_DeleteFunc_map_string_login_attempt_string_login_attempt__Logins_Drop_1_L1 n) m_0 del_1_c0 (e10.1 :: t_7)
def maps_DeleteFunc_map_string_login_attempt_string_login_attempt__Logins_Drop_1 (m_0 : GMap Str login_attempt) (c1_0 : Str) : Option (GMap Str login_attempt) :=
  maps_DeleteFunc_map_string_login_attempt_string_login_attempt__Logins_Drop_1_L1 fuel m_0 c1_0 ([] : List Str)
def login_Logins_Drop (l_0 : login_Logins) (user_1 : Str) : Option (Bool × login_Logins) :=
  (login_Logins_ready l_0).bind fun y15 =>
    if !y15 then
      some (false, l_0)
    else
      (some (mgetD l_0.users user_1 (login_credentials.mk (api_Verifier.mk ([]) 0 ([])) ([])))).bind fun y59 =>
        optC l_0.locks (
            (secret_Locks_Clear__nil user_1).bind fun y178 =>
              (maps_DeleteFunc_map_string_login_attempt_string_login_attempt__Logins_Drop_1 l_0.attempts user_1).bind fun y185 =>
                some (mhas l_0.users user_1, (login_Logins.mk none (mdel l_0.users user_1) (mdel l_0.counters user_1) y185)))
          fun z151 =>
            (secret_Locks_Clear z151 user_1).bind fun y159 =>
              (maps_DeleteFunc_map_string_login_attempt_string_login_attempt__Logins_Drop_1 l_0.attempts user_1).bind fun y172 =>
                some (mhas l_0.users user_1, (login_Logins.mk (some y159) (mdel l_0.users user_1) (mdel l_0.counters user_1) y172))
def login_Logins_ready__nil : Option (Bool) :=
  some (false)
def login_Logins_find__nil (id_1 : Str) (now_2 : Int) : Option (login_attempt × Int) :=
  (login_Logins_ready__nil).bind fun y8 =>
    some ((login_attempt.mk ([]) 0 ([] : List api_Proof)), 1)
def login_Logins_Finish__nil (id_1 : Str) (level_2 : Int) (now_3 : Int) : Option (Str × (List api_Proof) × Int) :=
  (login_Logins_find__nil id_1 now_3).bind fun y3 =>
    if y3.2 != 0 then
      some ([], ([] : List api_Proof), y3.2)
    else
      (strength_Level y3.1.proofs).bind fun y18 =>
        if decide (y18 < level_2) then
          some ([], ([] : List api_Proof), 21)
        else
          none
def login_Logins_Enroll__nil (user_1 : Str) (v_2 : api_Verifier) (code_3 : Str) : Option (Int) :=
  (login_Logins_ready__nil).bind fun y6 =>
    some (1)
def login_Logins_Begin__nil (id_1 : Str) (user_2 : Str) (now_3 : Int) : Option (Int) :=
  (login_Logins_ready__nil).bind fun y6 =>
    some (1)
def login_Logins_present__nil_____Logins_byPassword (id_1 : Str) (text_2 : Str) (now_3 : Int) (f_4 : Int) : Option (Int) :=
  (login_Logins_find__nil id_1 now_3).bind fun y1 =>
    if y1.2 != 0 then
      some (y1.2)
    else
      (login_attempt_has y1.1 f_4).bind fun y16 =>
        if y16 then
          some (12)
        else
          none
def login_Logins_Password__nil (id_1 : Str) (password_2 : Str) (now_3 : Int) : Option (Int) :=
  (login_Logins_present__nil_____Logins_byPassword id_1 password_2 now_3 1).bind fun y1 =>
    some (y1)
def login_Logins_present__nil_____Logins_byCode (id_1 : Str) (text_2 : Str) (now_3 : Int) (f_4 : Int) : Option (Int) :=
  (login_Logins_find__nil id_1 now_3).bind fun y1 =>
    if y1.2 != 0 then
      some (y1.2)
    else
      (login_attempt_has y1.1 f_4).bind fun y16 =>
        if y16 then
          some (12)
        else
          none
def login_Logins_Code__nil (id_1 : Str) (code_2 : Str) (now_3 : Int) : Option (Int) :=
  (login_Logins_present__nil_____Logins_byCode id_1 code_2 now_3 2).bind fun y1 =>
    some (y1)
def login_Logins_Locked__nil (user_1 : Str) (now_2 : Int) : Option (Bool) :=
  (login_Logins_ready__nil).bind fun y1 =>
    some (false)
def login_Logins_Drop__nil (user_1 : Str) : Option (Bool) :=
  (login_Logins_ready__nil).bind fun y6 =>
    some (false)
def login_Logins_Open__nil (now_1 : Int) : Option (Int) :=
  (login_Logins_ready__nil).bind fun y1 =>
    some (0)
def law39_LoginNil (o_0 : law39_Op) : Option (Bool) :=
  (law39_few ([o_0] : List law39_Op)).bind fun y11 =>
    if !y11 then
      (law39_alive).bind fun y17 =>
        some (y17)
    else
      (login_Logins_Finish__nil o_0.ID o_0.Level o_0.Now).bind fun y37 =>
        if y37.2.2 != 1 then
          some (false)
        else
          if (y37.2.1.length : Int) != 0 then
            some (false)
          else
            (law39_verifier o_0).bind fun y163 =>
              (login_Logins_Enroll__nil o_0.User y163 o_0.Code).bind fun y169 =>
                if y169 != 1 then
                  some (false)
                else
                  (login_Logins_Begin__nil o_0.ID o_0.User o_0.Now).bind fun y176 =>
                    if y176 != 1 then
                      some (false)
                    else
                      (login_Logins_Password__nil o_0.ID o_0.Word o_0.Now).bind fun y183 =>
                        if y183 != 1 then
                          some (false)
                        else
                          (login_Logins_Code__nil o_0.ID o_0.Code o_0.Now).bind fun y190 =>
                            if y190 != 1 then
                              some (false)
                            else
                              (login_Logins_Locked__nil o_0.User o_0.Now).bind fun y197 =>
                                if y197 then
                                  some (false)
                                else
                                  (login_Logins_Drop__nil o_0.User).bind fun y204 =>
                                    if y204 then
                                      some (false)
                                    else
                                      (login_Logins_Open__nil o_0.Now).bind fun y211 =>
                                        if y211 != 0 then
                                          some (false)
                                        else
                                          (login_Logins_Finish (login_Logins.mk none (none : GMap Str login_credentials) (none : GMap Str Int) (none : GMap Str login_attempt)) o_0.ID o_0.Level o_0.Now).bind fun y222 =>
                                            if y222.2.2.1 != 1 then
                                              some (false)
                                            else
                                              if (y222.2.1.length : Int) != 0 then
                                                some (false)
                                              else
                                                (law39_verifier o_0).bind fun y458 =>
                                                  (login_Logins_Enroll y222.2.2.2 o_0.User y458 o_0.Code).bind fun y464 =>
                                                    if y464.1 != 1 then
                                                      some (false)
                                                    else
                                                      (login_Logins_Begin y464.2 o_0.ID o_0.User o_0.Now).bind fun y481 =>
                                                        if y481.1 != 1 then
                                                          some (false)
                                                        else
                                                          (login_Logins_Password y481.2 o_0.ID o_0.Word o_0.Now).bind fun y498 =>
                                                            if y498.1 != 1 then
                                                              some (false)
                                                            else
                                                              (login_Logins_Code y498.2 o_0.ID o_0.Code o_0.Now).bind fun y515 =>
                                                                if y515.1 != 1 then
                                                                  some (false)
                                                                else
                                                                  (login_Logins_Locked y515.2 o_0.User o_0.Now).bind fun y532 =>
                                                                    if y532 then
                                                                      some (false)
                                                                    else
                                                                      (login_Logins_Drop y515.2 o_0.User).bind fun y539 =>
                                                                        if y539.1 then
                                                                          some (false)
                                                                        else
                                                                          (login_Logins_Open y539.2 o_0.Now).bind fun y556 =>
                                                                            if y556 != 0 then
                                                                              some (false)
                                                                            else
                                                                              (law39_alive).bind fun y562 =>
                                                                                some (y562)
end Go.KW.S
