/- Own work: a part of the proofs of this seat. -/
import Derived.Test.YtkhodjenbganfaaGreatDoorKwMap3
import Derived.Test.YtkhodjenbganfaaGreatDoorKwSeg2
import Derived.Test.YtkhodjenbganfaaGreatDoorKwKeys
import Derived.Test.YtkhodjenbganfaaGreatDoorKwGlob
import Derived.Test.YtkhodjenbganfaaGreatDoorKwOffs
import Derived.Test.YtkhodjenbganfaaGreatDoorKwMapR
import Derived.Test.YtkhodjenbganfaaGreatDoorKwOpt
import Derived.Test.YtkhodjenbganfaaGreatDoorKwNest
set_option linter.unusedVariables false
namespace Go.KW.S
open Go Go.KW
def tab_digest_digits : List Int := [48, 49, 50, 51, 52, 53, 54, 55, 56, 57, 97, 98, 99, 100, 101, 102]
structure law39_Op where
  Kind : Int
  ID : Str
  User : Str
  Word : Str
  Code : Str
  S : Str
  Level : Int
  Rounds : Int
  Now : Int
  deriving DecidableEq
def law39_Op.c : Cdc law39_Op := Cdc.flat 9 (fun x => [.int .i64 x.Kind, str x.ID, str x.User, str x.Word, str x.Code, str x.S, .int .i64 x.Level, .int .i64 x.Rounds, .int .i64 x.Now]) (fun _ => rfl) (fun _ u h => by simp at h; rcases h with rfl | rfl | rfl | rfl | rfl | rfl | rfl | rfl | rfl <;> rfl)
def law39_Op.eqb (x y : law39_Op) : Bool := (x.Kind == y.Kind) && (x.ID == y.ID) && (x.User == y.User) && (x.Word == y.Word) && (x.Code == y.Code) && (x.S == y.S) && (x.Level == y.Level) && (x.Rounds == y.Rounds) && (x.Now == y.Now)
structure api_Verifier where
  Salt : Str
  Rounds : Int
  Hash : Str
  deriving DecidableEq
def api_Verifier.c : Cdc api_Verifier := Cdc.flat 3 (fun x => [str x.Salt, .int .i64 x.Rounds, str x.Hash]) (fun _ => rfl) (fun _ u h => by simp at h; rcases h with rfl | rfl | rfl <;> rfl)
def api_Verifier.eqb (x y : api_Verifier) : Bool := (x.Salt == y.Salt) && (x.Rounds == y.Rounds) && (x.Hash == y.Hash)
structure login_credentials where
  verifier : api_Verifier
  code : Str
  deriving DecidableEq
def login_credentials.c : Cdc login_credentials := Cdc.flat 4 (fun x => [str x.verifier.Salt, .int .i64 x.verifier.Rounds, str x.verifier.Hash, str x.code]) (fun _ => rfl) (fun _ u h => by simp at h; rcases h with rfl | rfl | rfl | rfl <;> rfl)
def login_credentials.eqb (x y : login_credentials) : Bool := (x.verifier.Salt == y.verifier.Salt) && (x.verifier.Rounds == y.verifier.Rounds) && (x.verifier.Hash == y.verifier.Hash) && (x.code == y.code)
structure api_Proof where
  Factor : Int
  Time : Int
  deriving DecidableEq
def api_Proof.c : Cdc api_Proof := Cdc.flat 2 (fun x => [.int .i64 x.Factor, .int .i64 x.Time]) (fun _ => rfl) (fun _ u h => by simp at h; rcases h with rfl | rfl <;> rfl)
def api_Proof.eqb (x y : api_Proof) : Bool := (x.Factor == y.Factor) && (x.Time == y.Time)
structure login_attempt where
  user : Str
  begun : Int
  proofs : List api_Proof
  deriving DecidableEq
def login_attempt.c : Cdc login_attempt :=
  { size := 3, rd := fun A w cs x => ∃ v0, cs = [str x.user, .int .i64 x.begun, v0] ∧ SlR api_Proof.c A w v0 x.proofs
    len := fun h => by obtain ⟨_, h, _⟩ := h; rw [h]; rfl
    one := fun h u hu => by
      obtain ⟨v0, h, h0⟩ := h
      subst h
      simp at hu
      rcases hu with rfl | rfl | rfl
      all_goals first | rfl | exact SlR.oneCell (by assumption)
    step := fun h s => by
      obtain ⟨v0, h, h0⟩ := h
      exact ⟨v0, h, h0.step s⟩ }
structure secret_record where
  times : List Int
  until_ : Int
  deriving DecidableEq
def secret_record.c : Cdc secret_record :=
  { size := 2, rd := fun A w cs x => ∃ v0, cs = [v0, .int .i64 x.until_] ∧ SlR (intC .i64) A w v0 x.times
    len := fun h => by obtain ⟨_, h, _⟩ := h; rw [h]; rfl
    one := fun h u hu => by
      obtain ⟨v0, h, h0⟩ := h
      subst h
      simp at hu
      rcases hu with rfl | rfl
      all_goals first | rfl | exact SlR.oneCell (by assumption)
    step := fun h s => by
      obtain ⟨v0, h, h0⟩ := h
      exact ⟨v0, h, h0.step s⟩ }
def secret_record.O (τ : Nat → Nat) (ρ : Tags) (w : World) (g : Nat) (x : secret_record) : Prop := ∃ v0, Blk ρ (τ 0) w g (.cells #[v0, .int .i64 x.until_] 137 (0, 0)) ∧ OffT (intC .i64) 3 ρ (τ 1) w v0 x.times
theorem secret_record.objK : ObjK 2 secret_record.O := ⟨fun h hm h0 => by
  obtain ⟨v0, hB, h1⟩ := h
  exact ⟨v0, hB.mv (hm 0 (by decide)), h1.mv (hm 1 (by decide)) (h0 1 (by decide))⟩⟩
structure secret_Locks where
  most : Int
  window : Int
  lock : Int
  users : GMap Str secret_record
  deriving DecidableEq
def secret_Locks.O (τ : Nat → Nat) (ρ : Tags) (w : World) (g : Nat) (x : secret_Locks) : Prop := ∃ v0 p0, Blk ρ (τ 0) w g (.cells #[.int .i64 x.most, .int .i64 x.window, .int .i64 x.lock, v0] 134 (0, 0)) ∧ MapT str ptrC false ρ (τ 1) w v0 p0 ∧ Recs secret_record.O 2 ρ (τ 2) w p0 x.users
theorem secret_Locks.objK : ObjK 3 secret_Locks.O := ⟨fun h hm h0 => by
  obtain ⟨v0, p0, hB, h1, h2⟩ := h
  exact ⟨v0, p0, hB.mv (hm 0 (by decide)), h1.mv (hm 1 (by decide)), Recs.mv h2 secret_record.objK (hm 2 (by decide)) (h0 2 (by decide))⟩⟩
structure login_Logins where
  locks : Option secret_Locks
  users : GMap Str login_credentials
  counters : GMap Str Int
  attempts : GMap Str login_attempt
  deriving DecidableEq
def login_Logins.O (τ : Nat → Nat) (ρ : Tags) (w : World) (g : Nat) (x : login_Logins) : Prop := ∃ v0 v1 v2 v3, Blk ρ (τ 0) w g (.cells #[v0, v1, v2, v3] 69 (0, 0)) ∧ PtrO secret_Locks.O (fun q => τ (1 + q)) ρ w v0 x.locks ∧ MapT str login_credentials.c true ρ (τ 4) w v1 x.users ∧ MapT str (intC .i64) false ρ (τ 5) w v2 x.counters ∧ MapT str login_attempt.c true ρ (τ 6) w v3 x.attempts
theorem login_Logins.objK : ObjK 7 login_Logins.O := ⟨fun h hm h0 => by
  obtain ⟨v0, v1, v2, v3, hB, h1, h4, h5, h6⟩ := h
  exact ⟨v0, v1, v2, v3, hB.mv (hm 0 (by decide)), PtrO.mv h1 secret_Locks.objK (fun p hp => hm (1 + p) (by omega)) (fun p hp => h0 (1 + p) (by omega)), h4.mv (hm 4 (by decide)), h5.mv (hm 5 (by decide)), h6.mv (hm 6 (by decide))⟩⟩
structure ref22_record where
  user : Str
  times : List Int
  until_ : Int
  deriving DecidableEq
def ref22_record.c : Cdc ref22_record :=
  { size := 3, rd := fun A w cs x => ∃ v0, cs = [str x.user, v0, .int .i64 x.until_] ∧ SlR (intC .i64) A w v0 x.times
    len := fun h => by obtain ⟨_, h, _⟩ := h; rw [h]; rfl
    one := fun h u hu => by
      obtain ⟨v0, h, h0⟩ := h
      subst h
      simp at hu
      rcases hu with rfl | rfl | rfl
      all_goals first | rfl | exact SlR.oneCell (by assumption)
    step := fun h s => by
      obtain ⟨v0, h, h0⟩ := h
      exact ⟨v0, h, h0.step s⟩ }
structure ref39_user where
  name : Str
  v : api_Verifier
  code : Str
  last : Int
  deriving DecidableEq
def ref39_user.c : Cdc ref39_user := Cdc.flat 6 (fun x => [str x.name, str x.v.Salt, .int .i64 x.v.Rounds, str x.v.Hash, str x.code, .int .i64 x.last]) (fun _ => rfl) (fun _ u h => by simp at h; rcases h with rfl | rfl | rfl | rfl | rfl | rfl <;> rfl)
def ref39_user.eqb (x y : ref39_user) : Bool := (x.name == y.name) && (x.v.Salt == y.v.Salt) && (x.v.Rounds == y.v.Rounds) && (x.v.Hash == y.v.Hash) && (x.code == y.code) && (x.last == y.last)
structure ref39_attempt where
  id : Str
  user : Str
  begun : Int
  proofs : List api_Proof
  deriving DecidableEq
def ref39_attempt.c (M : NM api_Proof) : Cdc ref39_attempt :=
  { size := 4, rd := fun A w cs x => ∃ v0, cs = [str x.id, str x.user, .int .i64 x.begun, v0] ∧ NR M v0 x.id x.proofs
    len := fun h => by obtain ⟨_, h, _⟩ := h; rw [h]; rfl
    one := fun h u hu => by
      obtain ⟨v0, h, h0⟩ := h
      subst h
      simp at hu
      rcases hu with rfl | rfl | rfl | rfl
      all_goals first | rfl | exact h0.oneCell
    step := fun h _ => h }
theorem ref39_attempt.cmono {M M2 : NM api_Proof} {A : Nat → Prop} {w : World} {cs : List Value} {x : ref39_attempt} (hm : ∀ u, NR M u x.id x.proofs → NR M2 u x.id x.proofs) (h : (ref39_attempt.c M).rd A w cs x) : (ref39_attempt.c M2).rd A w cs x := by
  obtain ⟨v, h1, h2⟩ := h
  exact ⟨v, h1, hm v h2⟩
structure ref22_Locks where
  made : Bool
  most : Int
  window : Int
  lock : Int
  records : List ref22_record
  deriving DecidableEq
def ref22_Locks.c : Cdc ref22_Locks :=
  { size := 5, rd := fun A w cs x => ∃ v0, cs = [.bool x.made, .int .i64 x.most, .int .i64 x.window, .int .i64 x.lock, v0] ∧ SlR ref22_record.c A w v0 x.records
    len := fun h => by obtain ⟨_, h, _⟩ := h; rw [h]; rfl
    one := fun h u hu => by
      obtain ⟨v0, h, h0⟩ := h
      subst h
      simp at hu
      rcases hu with rfl | rfl | rfl | rfl | rfl
      all_goals first | rfl | exact SlR.oneCell (by assumption)
    step := fun h s => by
      obtain ⟨v0, h, h0⟩ := h
      exact ⟨v0, h, h0.step s⟩ }
def ref22_Locks.O (τ : Nat → Nat) (ρ : Tags) (w : World) (g : Nat) (x : ref22_Locks) : Prop := ∃ v0, Blk ρ (τ 0) w g (.cells #[.bool x.made, .int .i64 x.most, .int .i64 x.window, .int .i64 x.lock, v0] 140 (0, 0)) ∧ OwnT ref22_record.c 142 ρ (τ 1) w v0 x.records
theorem ref22_Locks.objK : ObjK 2 ref22_Locks.O := ⟨fun h hm h0 => by
  obtain ⟨v0, hB, h1⟩ := h
  exact ⟨v0, hB.mv (hm 0 (by decide)), h1.mv (hm 1 (by decide)) (h0 1 (by decide))⟩⟩
structure ref39_Logins where
  locks : Option ref22_Locks
  users : List ref39_user
  attempts : List ref39_attempt
  deriving DecidableEq
def ref39_Logins.O (τ : Nat → Nat) (ρ : Tags) (w : World) (g : Nat) (x : ref39_Logins) : Prop := ∃ v0 v1 v2 m2, Blk ρ (τ 0) w g (.cells #[v0, v1, v2] 96 (0, 0)) ∧ PtrO ref22_Locks.O (fun q => τ (1 + q)) ρ w v0 x.locks ∧ OwnT ref39_user.c 103 ρ (τ 3) w v1 x.users ∧ OwnT (ref39_attempt.c m2) 108 ρ (τ 4) w v2 x.attempts ∧ NestT api_Proof.c 42 ρ (τ 5) w m2 none
theorem ref39_Logins.objK : ObjK 6 ref39_Logins.O := ⟨fun h hm h0 => by
  obtain ⟨v0, v1, v2, m2, hB, h1, h3, h4, h5⟩ := h
  exact ⟨v0, v1, v2, m2, hB.mv (hm 0 (by decide)), PtrO.mv h1 ref22_Locks.objK (fun p hp => hm (1 + p) (by omega)) (fun p hp => h0 (1 + p) (by omega)), h3.mv (hm 3 (by decide)) (h0 3 (by decide)), h4.mv (hm 4 (by decide)) (h0 4 (by decide)), h5.mv (hm 5 (by decide)) (h0 5 (by decide))⟩⟩
def law39_few_L1 : Nat → List law39_Op → Int → Option (Bool)
 | 0, _, _ => none
 | n + 1, l_0, i_3 =>
  if decide (i_3 < (l_0.length : Int)) then
  (idx l_0 i_3).bind fun y4 =>
  if ((((decide ((y4.ID.length : Int) > 300)) || (decide ((y4.User.length : Int) > 300))) || (decide ((y4.Word.length : Int) > 300))) || (decide ((y4.Code.length : Int) > 300))) || (decide ((y4.S.length : Int) > 300)) then
  some (false)
  else
  (law39_few_L1 n) l_0 (IntKind.i64.wrap (i_3 + 1))
  else
  some (decide ((l_0.length : Int) ≤ 20))
def law39_few (l_0 : List law39_Op) : Option (Bool) :=
  law39_few_L1 fuel l_0 0
def clock_limited (t_0 : Int) : Option (Int) :=
  some (gmin (gmax t_0 0) 1099511627776)
def clock_Add (t_0 : Int) (d_1 : Int) : Option (Int) :=
  (clock_limited t_0).bind fun y1 =>
  (clock_limited d_1).bind fun y5 =>
  (clock_limited (IntKind.i64.wrap (y1 + y5))).bind fun y9 =>
  some (y9)
def secret_NewLocks (most_0 : Int) (window_1 : Int) (lock_2 : Int) : Option ((Option secret_Locks) × Int) :=
  (clock_Add window_1 0).bind fun y1 =>
  (clock_Add lock_2 0).bind fun y6 =>
  if (((decide (most_0 < 1)) || (decide (most_0 > 256))) || (decide (y1 < 1))) || (decide (y6 < 1)) then
  some (none, 2)
  else
  some (some (secret_Locks.mk most_0 y1 y6 (some [] : GMap Str secret_record)), 0)
def login_New (most_0 : Int) (window_1 : Int) (lock_2 : Int) : Option ((Option login_Logins) × Int) :=
  (secret_NewLocks most_0 window_1 lock_2).bind fun y1 =>
  optC y1.1 (
  if y1.2 != 0 then
  some (none, y1.2)
  else
  some (some (login_Logins.mk none (some [] : GMap Str login_credentials) (some [] : GMap Str Int) (some [] : GMap Str login_attempt)), 0))
  fun z9 =>
  if y1.2 != 0 then
  some (none, y1.2)
  else
  some (some (login_Logins.mk (some z9) (some [] : GMap Str login_credentials) (some [] : GMap Str Int) (some [] : GMap Str login_attempt)), 0)
def fold_upper (c_0 : Int) : Option (Bool) :=
  some ((decide (c_0 ≥ 65)) && (decide (c_0 ≤ 90)))
def fold_letter (c_0 : Int) : Option (Bool) :=
  (fold_upper c_0).bind fun y1 =>
  some (y1 || ((decide (c_0 ≥ 97)) && (decide (c_0 ≤ 122))))
def fold_digit (c_0 : Int) : Option (Bool) :=
  some ((decide (c_0 ≥ 48)) && (decide (c_0 ≤ 57)))
def fold_Word_1 (c_0 : Int) : Option (Bool) :=
  (fold_letter c_0).bind fun y1 =>
  Option.bind (if y1 then
  some true
  else
  (fold_digit c_0).bind fun y12 =>
  some y12
  ) fun z7 =>
  some ((((z7 || (c_0 == 45)) || (c_0 == 95)) || (c_0 == 46)) || (c_0 == 58))
def fold_made__Word_1_L1 : Nat → Str → Int → Int → Option (Bool)
 | 0, _, _, _ => none
 | n + 1, s_0, t_7, t_8 =>
  if decide (t_8 < t_7) then
  chk (inb t_8 s_0.length) (
  (fold_Word_1 (byteAt s_0 t_8)).bind fun y3 =>
  if !y3 then
  some (false)
  else
  (fold_made__Word_1_L1 n) s_0 t_7 (IntKind.i64.wrap (t_8 + 1)))
  else
  some ((!(s_0 == ([]))) && (decide ((s_0.length : Int) ≤ 64)))
def fold_made__Word_1 (s_0 : Str) : Option (Bool) :=
  fold_made__Word_1_L1 fuel s_0 (s_0.length : Int) 0
def fold_Word (s_0 : Str) : Option (Bool) :=
  (fold_made__Word_1 s_0).bind fun y1 =>
  some (y1)
def secret_isPassword_L1 : Nat → Str → Int → Int → Option (Bool)
 | 0, _, _, _ => none
 | n + 1, s_0, t_5, t_6 =>
  if decide (t_6 < t_5) then
  chk (inb t_6 s_0.length) (
  Option.bind (if decide ((byteAt s_0 t_6) < 32) then
  some true
  else
  chk (inb t_6 s_0.length) (
  some (decide ((byteAt s_0 t_6) > 126)))
  ) fun z5 =>
  if z5 then
  some (false)
  else
  (secret_isPassword_L1 n) s_0 t_5 (IntKind.i64.wrap (t_6 + 1)))
  else
  some ((decide ((s_0.length : Int) ≥ 8)) && (decide ((s_0.length : Int) ≤ 256)))
def secret_isPassword (s_0 : Str) : Option (Bool) :=
  secret_isPassword_L1 fuel s_0 (s_0.length : Int) 0
def digest_Sum_L1 : Nat → Str → Int → Int → Int → Option (Int)
 | 0, _, _, _, _ => none
 | n + 1, s_0, h_3, t_6, t_7 =>
  if decide (t_7 < t_6) then
  chk (inb t_7 s_0.length) (
  (digest_Sum_L1 n) s_0 (IntKind.u64.wrap ((bXor .u64 h_3 (IntKind.u64.wrap (byteAt s_0 t_7))) * 1099511628211)) t_6 (IntKind.i64.wrap (t_7 + 1)))
  else
  some (bXor .u64 (IntKind.u64.wrap ((bXor .u64 (IntKind.u64.wrap ((bXor .u64 h_3 (bShr .u64 h_3 33)) * 18397679294719823053)) (bShr .u64 (IntKind.u64.wrap ((bXor .u64 h_3 (bShr .u64 h_3 33)) * 18397679294719823053)) 33)) * 14181476777654086739)) (bShr .u64 (IntKind.u64.wrap ((bXor .u64 (IntKind.u64.wrap ((bXor .u64 h_3 (bShr .u64 h_3 33)) * 18397679294719823053)) (bShr .u64 (IntKind.u64.wrap ((bXor .u64 h_3 (bShr .u64 h_3 33)) * 18397679294719823053)) 33)) * 14181476777654086739)) 33))
def digest_Sum (s_0 : Str) : Option (Int) :=
  digest_Sum_L1 fuel s_0 14695981039346656037 (s_0.length : Int) 0
def digest_Hex_L1 : Nat → Int → List Int → Int → Option (Str)
 | 0, _, _, _ => none
 | n + 1, n_0, b_3, t_5 =>
  if decide (t_5 < 16) then
  chk (decide (0 ≤ IntKind.i64.wrap (4 * t_5))) (
  chk (inb (bAnd .u64 (bShr .u64 n_0 (IntKind.i64.wrap (4 * t_5))) 15) 16) (
  (idx tab_digest_digits (bAnd .u64 (bShr .u64 n_0 (IntKind.i64.wrap (4 * t_5))) 15)).bind fun y11 =>
  chk (inb (IntKind.i64.wrap (15 - t_5)) 16) (
  chk (inb (IntKind.i64.wrap (15 - t_5)) b_3.length) (
  (digest_Hex_L1 n) n_0 (setAt b_3 (IntKind.i64.wrap (15 - t_5)) y11) (IntKind.i64.wrap (t_5 + 1))))))
  else
  chk (b_3.length == 16) (
  some (bytesStr b_3))
def digest_Hex (n_0 : Int) : Option (Str) :=
  digest_Hex_L1 fuel n_0 ([0, 0, 0, 0, 0, 0, 0, 0, 0, 0, 0, 0, 0, 0, 0, 0]) 0
def digest_Text (s_0 : Str) : Option (Str) :=
  (digest_Sum s_0).bind fun y1 =>
  (digest_Hex y1).bind fun y5 =>
  some (y5)
def digest_Iterate_L1 : Nat → Str → Str → Int → Int → Option (Str)
 | 0, _, _, _, _ => none
 | n + 1, salt_0, h_7, t_15, t_16 =>
  if decide (t_16 < t_15) then
  chk (fitS h_7 ([124])) (
  chk (fitS (h_7 ++ ([124])) salt_0) (
  (digest_Text ((h_7 ++ ([124])) ++ salt_0)).bind fun y10 =>
  (digest_Iterate_L1 n) salt_0 y10 t_15 (IntKind.i64.wrap (t_16 + 1))))
  else
  some (h_7)
def digest_Iterate (salt_0 : Str) (s_1 : Str) (rounds_2 : Int) : Option (Str) :=
  chk (fitS salt_0 ([124])) (
  chk (fitS (salt_0 ++ ([124])) s_1) (
  (digest_Text ((salt_0 ++ ([124])) ++ s_1)).bind fun y3 =>
  digest_Iterate_L1 fuel salt_0 y3 (gmin (gmax rounds_2 0) 64) 0))
def secret_Make (password_0 : Str) (salt_1 : Str) (rounds_2 : Int) : Option (api_Verifier × Int) :=
  (fold_Word salt_1).bind fun y8 =>
  if ((!y8) || (decide (rounds_2 < 1))) || (decide (rounds_2 > 64)) then
  some ((api_Verifier.mk ([]) 0 ([])), 2)
  else
  (secret_isPassword password_0).bind fun y29 =>
  if !y29 then
  some ((api_Verifier.mk ([]) 0 ([])), 4)
  else
  (digest_Iterate salt_1 password_0 rounds_2).bind fun y36 =>
  some ((api_Verifier.mk salt_1 rounds_2 y36), 0)
def login_Logins_ready (l_0 : login_Logins) : Option (Bool) :=
  some (!l_0.users.isNone)
def digest_ReadHex_B3 (r0 : Str → Int → Int → Int → Option (Int × Int)) (r1 : Str → Int → Int → Int → Int → Int → Int → Option (Int × Int)) (s_0 : Str) (n_4 : Int) (i_5 : Int) (v_6 : Int) (t_13 : Int) (t_14 : Int) (t_18 : Int) : Option (Int × Int) :=
  r1 s_0 n_4 i_5 v_6 t_13 t_14 (IntKind.i64.wrap (t_18 + 1))
def digest_ReadHex_L2 (r0 : Str → Int → Int → Int → Option (Int × Int)) : Nat → Str → Int → Int → Int → Int → Int → Int → Option (Int × Int)
 | 0, _, _, _, _, _, _, _ => none
 | n + 1, s_0, n_4, i_5, v_6, t_13, t_14, t_18 =>
  if decide (t_18 < 16) then
  (idx tab_digest_digits t_18).bind fun y4 =>
  chk (inb i_5 s_0.length) (
  if y4 == (byteAt s_0 i_5) then
  digest_ReadHex_B3 r0 (digest_ReadHex_L2 r0 n) s_0 n_4 i_5 t_18 t_13 t_14 t_18
  else
  digest_ReadHex_B3 r0 (digest_ReadHex_L2 r0 n) s_0 n_4 i_5 v_6 t_13 t_14 t_18)
  else
  if decide (v_6 < 0) then
  some (0, 4)
  else
  r0 s_0 (bOr .u64 (bShl .u64 n_4 4) (IntKind.u64.wrap v_6)) t_13 (IntKind.i64.wrap (t_14 + 1))
def digest_ReadHex_L1 : Nat → Str → Int → Int → Int → Option (Int × Int)
 | 0, _, _, _, _ => none
 | n + 1, s_0, n_4, t_13, t_14 =>
  if decide (t_14 < t_13) then
  digest_ReadHex_L2 (digest_ReadHex_L1 n) fuel s_0 n_4 t_14 (-1) t_13 t_14 0
  else
  some (n_4, 0)
def digest_ReadHex (s_0 : Str) : Option (Int × Int) :=
  if (s_0.length : Int) != 16 then
  some (0, 4)
  else
  digest_ReadHex_L1 fuel s_0 0 (s_0.length : Int) 0
def secret_Valid (v_0 : api_Verifier) : Option (Bool) :=
  (digest_ReadHex v_0.Hash).bind fun y8 =>
  (fold_Word v_0.Salt).bind fun y12 =>
  some (((y12 && (decide (v_0.Rounds ≥ 1))) && (decide (v_0.Rounds ≤ 64))) && (y8.2 == 0))
def fold_Trim (s_0 : Str) : Option (Str) :=
  (lib_Trim s_0 ([32])).bind fun y1 =>
  some (y1)
def fold_Clean_L1 : Nat → Str → Str → Nat → Option (Bool)
 | 0, _, _, _ => none
 | n + 1, s_0, t_6s, t_6p =>
  if decide (t_6p < t_6s.length) then
  if (decide (((sdec t_6s t_6p).1) < 32)) || (decide (((sdec t_6s t_6p).1) > 126)) then
  some (false)
  else
  (fold_Clean_L1 n) s_0 t_6s (t_6p + (sdec t_6s t_6p).2)
  else
  Option.bind (if (!(s_0 == ([]))) && (decide ((s_0.length : Int) ≤ 256)) then
  (fold_Trim s_0).bind fun y33 =>
  some (y33 == s_0)
  else
  some false
  ) fun z28 =>
  some (z28)
def fold_Clean (s_0 : Str) : Option (Bool) :=
  fold_Clean_L1 fuel s_0 s_0 0
def login_Logins_Enroll (l_0 : login_Logins) (user_1 : Str) (v_2 : api_Verifier) (code_3 : Str) : Option (Int × login_Logins) :=
  (login_Logins_ready l_0).bind fun y15 =>
  if !y15 then
  some (1, l_0)
  else
  (some (mgetD l_0.users user_1 (login_credentials.mk (api_Verifier.mk ([]) 0 ([])) ([])))).bind fun y25 =>
  (fold_Word user_1).bind fun y34 =>
  if !y34 then
  some (5, l_0)
  else
  (secret_Valid v_2).bind fun y40 =>
  Option.bind (if !y40 then
  some true
  else
  Option.bind (if !(code_3 == ([])) then
  (fold_Clean code_3).bind fun y61 =>
  some (!y61)
  else
  some false
  ) fun z55 =>
  some z55
  ) fun z47 =>
  if z47 then
  some (4, l_0)
  else
  if (!(mhas l_0.users user_1)) && (decide ((mlen l_0.users) ≥ 256)) then
  some (3, l_0)
  else
  chk l_0.users.isSome (
  some (0, (login_Logins.mk l_0.locks (mput l_0.users user_1 (login_credentials.mk v_2 code_3)) l_0.counters l_0.attempts)))
def law39_ann (most_0 : Int) : Option (Option login_Logins) :=
  (login_New most_0 100 50).bind fun y1 =>
  optC y1.1 (
  (secret_Make ([115, 101, 99, 114, 101, 116, 119, 111, 114, 100]) ([115, 97, 108, 116]) 1).bind fun y83 =>
  some (none))
  fun z9 =>
  (secret_Make ([115, 101, 99, 114, 101, 116, 119, 111, 114, 100]) ([115, 97, 108, 116]) 1).bind fun y21 =>
  Option.bind (if ((y1.2 != 0) || (y21.2 != 0)) || false then
  some (true, z9)
  else
  (login_Logins_Enroll z9 ([97, 110, 110]) y21.1 ([115, 101, 101, 100])).bind fun y57 =>
  some (y57.1 != 0, y57.2)
  ) fun z51 =>
  if z51.1 then
  some (none)
  else
  some (some z51.2)
def clock_Sub (a_0 : Int) (b_1 : Int) : Option (Int) :=
  (clock_limited a_0).bind fun y1 =>
  (clock_limited b_1).bind fun y5 =>
  some (IntKind.i64.wrap (y1 - y5))
def login_attempt_expired (a_0 : login_attempt) (now_1 : Int) : Option (Bool) :=
  (clock_Sub now_1 a_0.begun).bind fun y8 =>
  some (decide (y8 ≥ 300))
def login_Logins_Open_B2 (r0 : Int → Int → List Str → login_Logins → Option (Int)) (now_1 : Int) (n_5 : Int) (t_15 : List Str) (ogl_0m : login_Logins) : Option (Int) :=
  r0 now_1 n_5 t_15 ogl_0m
def login_Logins_Open_L1 : Nat → Int → Int → List Str → login_Logins → Option (Int)
 | 0, _, _, _, _ => none
 | n + 1, now_1, n_5, t_15, ogl_0m =>
  pickAny (mleft ogl_0m.attempts t_15) (
  some (n_5))
  fun e30 =>
  (login_attempt_expired e30.2 now_1).bind fun y45 =>
  if !y45 then
  login_Logins_Open_B2 (login_Logins_Open_L1 n) now_1 (IntKind.i64.wrap (n_5 + 1)) (e30.1 :: t_15) ogl_0m
  else
  login_Logins_Open_B2 (login_Logins_Open_L1 n) now_1 n_5 (e30.1 :: t_15) ogl_0m
def login_Logins_Open (l_0 : login_Logins) (now_1 : Int) : Option (Int) :=
  (login_Logins_ready l_0).bind fun y10 =>
  if !y10 then
  some (0)
  else
  login_Logins_Open_L1 fuel now_1 0 ([] : List Str) l_0
def login_Logins_Begin_1 (__0 : Str) (a_1 : login_attempt) (c2 : Int) : Option (Bool) :=
  (login_attempt_expired a_1 c2).bind fun y10 =>
  some (y10)
def maps_DeleteFunc_map_string_login_attempt_string_login_attempt__Logins_Begin_1_B2 (r0 : GMap Str login_attempt → Int → List Str → Option (GMap Str login_attempt)) (m_0 : GMap Str login_attempt) (del_1_c0 : Int) (t_7 : List Str) : Option (GMap Str login_attempt) :=
  r0 m_0 del_1_c0 t_7
def maps_DeleteFunc_map_string_login_attempt_string_login_attempt__Logins_Begin_1_L1 : Nat → GMap Str login_attempt → Int → List Str → Option (GMap Str login_attempt)
 | 0, _, _, _ => none
 | n + 1, m_0, del_1_c0, t_7 =>
  pickAny (mleft m_0 t_7) (
  some (m_0))
  fun e10 =>
  (login_Logins_Begin_1 e10.1 e10.2 del_1_c0).bind fun y25 =>
  if y25 then
  maps_DeleteFunc_map_string_login_attempt_string_login_attempt__Logins_Begin_1_B2 (maps_DeleteFunc_map_string_login_attempt_string_login_attempt__Logins_Begin_1_L1 n) (mdel m_0 e10.1) del_1_c0 (e10.1 :: t_7)
  else
  maps_DeleteFunc_map_string_login_attempt_string_login_attempt__Logins_Begin_1_B2 (maps_DeleteFunc_map_string_login_attempt_string_login_attempt__Logins_Begin_1_L1 n) m_0 del_1_c0 (e10.1 :: t_7)
def maps_DeleteFunc_map_string_login_attempt_string_login_attempt__Logins_Begin_1 (m_0 : GMap Str login_attempt) (c1_0 : Int) : Option (GMap Str login_attempt) :=
  maps_DeleteFunc_map_string_login_attempt_string_login_attempt__Logins_Begin_1_L1 fuel m_0 c1_0 ([] : List Str)
def login_Logins_Begin (l_0 : login_Logins) (id_1 : Str) (user_2 : Str) (now_3 : Int) : Option (Int × login_Logins) :=
  (login_Logins_ready l_0).bind fun y15 =>
  if !y15 then
  some (1, l_0)
  else
  (some (mgetD l_0.attempts id_1 (login_attempt.mk ([]) 0 ([] : List api_Proof)))).bind fun y25 =>
  (fold_Word id_1).bind fun y36 =>
  Option.bind (if !y36 then
  some true
  else
  (fold_Word user_2).bind fun y49 =>
  some (!y49)
  ) fun z43 =>
  if z43 then
  some (5, l_0)
  else
  Option.bind (if mhas l_0.attempts id_1 then
  (login_attempt_expired y25 now_3).bind fun y63 =>
  some (!y63)
  else
  some false
  ) fun z57 =>
  if z57 then
  some (7, l_0)
  else
  (login_Logins_Open l_0 now_3).bind fun y69 =>
  if decide (y69 ≥ 256) then
  some (3, l_0)
  else
  (maps_DeleteFunc_map_string_login_attempt_string_login_attempt__Logins_Begin_1 l_0.attempts now_3).bind fun y77 =>
  (clock_Add now_3 0).bind fun y108 =>
  chk y77.isSome (
  some (0, (login_Logins.mk l_0.locks l_0.users l_0.counters (mput y77 id_1 (login_attempt.mk user_2 y108 ([] : List api_Proof))))))
def login_Logins_find (l_0 : login_Logins) (id_1 : Str) (now_2 : Int) : Option (login_attempt × Int) :=
  (login_Logins_ready l_0).bind fun y17 =>
  if !y17 then
  some ((login_attempt.mk ([]) 0 ([] : List api_Proof)), 1)
  else
  (some (mgetD l_0.attempts id_1 (login_attempt.mk ([]) 0 ([] : List api_Proof)))).bind fun y29 =>
  if !(mhas l_0.attempts id_1) then
  some ((login_attempt.mk ([]) 0 ([] : List api_Proof)), 6)
  else
  (login_attempt_expired y29 now_2).bind fun y43 =>
  if y43 then
  some ((login_attempt.mk ([]) 0 ([] : List api_Proof)), 13)
  else
  some (y29, 0)
def login_attempt_has_1 (p_0 : api_Proof) (c1 : Int) : Option (Bool) :=
  some (p_0.Factor == c1)
def slices_IndexFunc_api_Proof_api_Proof__attempt_has_1_L1 : Nat → List api_Proof → Int → Int → Int → Option (Int)
 | 0, _, _, _, _ => none
 | n + 1, s_0, f_1_c0, t_7, t_8 =>
  if decide (t_8 < t_7) then
  (idx s_0 t_8).bind fun y6 =>
  (login_attempt_has_1 y6 f_1_c0).bind fun y13 =>
  if y13 then
  some (t_8)
  else
  (slices_IndexFunc_api_Proof_api_Proof__attempt_has_1_L1 n) s_0 f_1_c0 t_7 (IntKind.i64.wrap (t_8 + 1))
  else
  some ((-1))
def slices_IndexFunc_api_Proof_api_Proof__attempt_has_1 (s_0 : List api_Proof) (c1_0 : Int) : Option (Int) :=
  slices_IndexFunc_api_Proof_api_Proof__attempt_has_1_L1 fuel s_0 c1_0 (s_0.length : Int) 0
def slices_ContainsFunc_api_Proof_api_Proof__attempt_has_1 (s_0 : List api_Proof) (c1_0 : Int) : Option (Bool) :=
  (slices_IndexFunc_api_Proof_api_Proof__attempt_has_1 s_0 c1_0).bind fun y5 =>
  some (decide (y5 ≥ 0))
def login_attempt_has (a_0 : login_attempt) (f_1 : Int) : Option (Bool) :=
  (slices_ContainsFunc_api_Proof_api_Proof__attempt_has_1 a_0.proofs f_1).bind fun y15 =>
  some (y15)
def secret_Locks_Locked (k_0 : secret_Locks) (user_1 : Str) (now_2 : Int) : Option (Bool) :=
  Option.bind (if !(mgetP k_0.users user_1).isNone then
  (clock_Add now_2 0).bind fun y15 =>
  (mgetP k_0.users user_1).bind fun y20 =>
  some (decide (y15 < y20.until_))
  else
  some false
  ) fun z10 =>
  some (z10)
def secret_Check (v_0 : api_Verifier) (password_1 : Str) : Option (Bool) :=
  (secret_Valid v_0).bind fun y10 =>
  Option.bind (if y10 then
  (secret_isPassword password_1).bind fun y21 =>
  some y21
  else
  some false
  ) fun z16 =>
  Option.bind (if z16 then
  (digest_Iterate v_0.Salt password_1 v_0.Rounds).bind fun y32 =>
  some (v_0.Hash == y32)
  else
  some false
  ) fun z27 =>
  some (z27)
def secret_Locks_Clear (k_0 : secret_Locks) (user_1 : Str) : Option (secret_Locks) :=
  some ((secret_Locks.mk k_0.most k_0.window k_0.lock (mdel k_0.users user_1)))
def secret_Locks_Clear__nil (user_1 : Str) : Option (Unit) :=
  some ()
def login_Logins_byPassword (l_0 : login_Logins) (user_1 : Str) (password_2 : Str) (now_3 : Int) : Option (Bool × login_Logins) :=
  (some (mgetD l_0.users user_1 (login_credentials.mk (api_Verifier.mk ([]) 0 ([])) ([])))).bind fun y14 =>
  Option.bind (if !(mhas l_0.users user_1) then
  some true
  else
  (secret_Check y14.verifier password_2).bind fun y31 =>
  some (!y31)
  ) fun z25 =>
  if z25 then
  some (false, l_0)
  else
  optC l_0.locks (
  (secret_Locks_Clear__nil user_1).bind fun y56 =>
  some (true, (login_Logins.mk none l_0.users l_0.counters l_0.attempts)))
  fun z37 =>
  (secret_Locks_Clear z37 user_1).bind fun y45 =>
  some (true, (login_Logins.mk (some y45) l_0.users l_0.counters l_0.attempts))
def secret_Locks_count_B2 (r0 : secret_Locks → Int → Int → List Int → Int → Int → Option (Int)) (ok_0 : secret_Locks) (now_2 : Int) (n_7 : Int) (t_13 : List Int) (t_14 : Int) (t_15 : Int) : Option (Int) :=
  r0 ok_0 now_2 n_7 t_13 t_14 (IntKind.i64.wrap (t_15 + 1))
def secret_Locks_count_L1 : Nat → secret_Locks → Int → Int → List Int → Int → Int → Option (Int)
 | 0, _, _, _, _, _, _ => none
 | n + 1, ok_0, now_2, n_7, t_13, t_14, t_15 =>
  if decide (t_15 < t_14) then
  (idx t_13 t_15).bind fun y15 =>
  if (decide (y15 ≤ now_2)) && (decide ((IntKind.i64.wrap (now_2 - y15)) < ok_0.window)) then
  secret_Locks_count_B2 (secret_Locks_count_L1 n) ok_0 now_2 (IntKind.i64.wrap (n_7 + 1)) t_13 t_14 t_15
  else
  secret_Locks_count_B2 (secret_Locks_count_L1 n) ok_0 now_2 n_7 t_13 t_14 t_15
  else
  some (n_7)
def secret_Locks_count (k_0 : secret_Locks) (r_1 : secret_record) (now_2 : Int) : Option (Int) :=
  secret_Locks_count_L1 fuel k_0 now_2 0 r_1.times (r_1.times.length : Int) 0
def secret_Locks_Fail_B2 (ok_0 : secret_Locks) (t_7 : Int) (locked_8 : Bool) (r_6k : Str) : Option (secret_Locks) :=
  Option.bind (if locked_8 then
  some true
  else
  (mgetP ok_0.users r_6k).bind fun y93 =>
  (secret_Locks_count ok_0 y93 t_7).bind fun y100 =>
  some (decide (y100 ≥ ok_0.most))
  ) fun z88 =>
  if z88 then
  (mgetP ok_0.users r_6k).bind fun y107 =>
  (clock_Add t_7 ok_0.lock).bind fun y153 =>
  some ((secret_Locks.mk ok_0.most ok_0.window ok_0.lock (mput ok_0.users r_6k (secret_record.mk y107.times (gmax y107.until_ y153)))))
  else
  some (ok_0)
def secret_Locks_Fail_B1 (ok_0 : secret_Locks) (now_2 : Int) (r_6k : Str) : Option (secret_Locks) :=
  (clock_Add now_2 0).bind fun y41 =>
  (mgetP ok_0.users r_6k).bind fun y46 =>
  chk (fitL y46.times.length ([y41] : List Int).length) (
  if decide (((y46.times ++ ([y41] : List Int)).length : Int) > 256) then
  chk (inc 1 ((y46.times ++ ([y41] : List Int)).length) (y46.times ++ ([y41] : List Int)).length) (
  secret_Locks_Fail_B2 (secret_Locks.mk ok_0.most ok_0.window ok_0.lock (mput ok_0.users r_6k (secret_record.mk (cut (y46.times ++ ([y41] : List Int)) 1 ((y46.times ++ ([y41] : List Int)).length)) y46.until_))) y41 (decide (y41 < y46.until_)) r_6k)
  else
  secret_Locks_Fail_B2 (secret_Locks.mk ok_0.most ok_0.window ok_0.lock (mput ok_0.users r_6k (secret_record.mk (y46.times ++ ([y41] : List Int)) y46.until_))) y41 (decide (y41 < y46.until_)) r_6k)
def secret_Locks_Fail (k_0 : secret_Locks) (user_1 : Str) (now_2 : Int) : Option (secret_Locks) :=
  Option.bind (if k_0.users.isNone then
  some true
  else
  (fold_Word user_1).bind fun y14 =>
  some (!y14)
  ) fun z8 =>
  if z8 then
  some (k_0)
  else
  if (mgetP k_0.users user_1).isNone then
  if decide ((mlen k_0.users) ≥ 256) then
  some (k_0)
  else
  chk k_0.users.isSome (
  secret_Locks_Fail_B1 (secret_Locks.mk k_0.most k_0.window k_0.lock (mput (mput k_0.users user_1 (secret_record.mk ([] : List Int) 0)) user_1 (secret_record.mk ([] : List Int) 0))) now_2 user_1)
  else
  secret_Locks_Fail_B1 k_0 now_2 user_1
def secret_Locks_Fail__nil (user_1 : Str) (now_2 : Int) : Option (Unit) :=
  some ()
def slices_Clone_api_Proof_api_Proof (s_0 : List api_Proof) : Option (List api_Proof) :=
  chk (fitL ([] : List api_Proof).length s_0.length) (
  some (([] : List api_Proof) ++ s_0))
def secret_Locks_Locked__nil (user_1 : Str) (now_2 : Int) : Option (Bool) :=
  some (false)
def login_Logins_present__Logins_byPassword (l_0 : login_Logins) (id_1 : Str) (text_2 : Str) (now_3 : Int) (f_4 : Int) : Option (Int × login_Logins) :=
  (login_Logins_find l_0 id_1 now_3).bind fun y10 =>
  if y10.2 != 0 then
  some (y10.2, l_0)
  else
  (login_attempt_has y10.1 f_4).bind fun y25 =>
  if y25 then
  some (12, l_0)
  else
  optC l_0.locks (
  (secret_Locks_Locked__nil y10.1.user now_3).bind fun y191 =>
  (login_Logins_byPassword l_0 y10.1.user text_2 now_3).bind fun y197 =>
  if !y197.1 then
  optC y197.2.locks (
  (secret_Locks_Fail__nil y10.1.user now_3).bind fun y287 =>
  some (11, (login_Logins.mk none y197.2.users y197.2.counters y197.2.attempts)))
  fun z268 =>
  (secret_Locks_Fail z268 y10.1.user now_3).bind fun y276 =>
  some (11, (login_Logins.mk (some y276) y197.2.users y197.2.counters y197.2.attempts))
  else
  (slices_Clone_api_Proof_api_Proof y10.1.proofs).bind fun y292 =>
  (clock_Add now_3 0).bind fun y300 =>
  chk (fitL y292.length ([(api_Proof.mk f_4 y300)] : List api_Proof).length) (
  chk y197.2.attempts.isSome (
  some (0, (login_Logins.mk y197.2.locks y197.2.users y197.2.counters (mput y197.2.attempts id_1 (login_attempt.mk y10.1.user y10.1.begun (y292 ++ ([(api_Proof.mk f_4 y300)] : List api_Proof)))))))))
  fun z33 =>
  (secret_Locks_Locked z33 y10.1.user now_3).bind fun y41 =>
  if y41 then
  some (22, l_0)
  else
  (login_Logins_byPassword l_0 y10.1.user text_2 now_3).bind fun y48 =>
  if !y48.1 then
  optC y48.2.locks (
  (secret_Locks_Fail__nil y10.1.user now_3).bind fun y138 =>
  some (11, (login_Logins.mk none y48.2.users y48.2.counters y48.2.attempts)))
  fun z119 =>
  (secret_Locks_Fail z119 y10.1.user now_3).bind fun y127 =>
  some (11, (login_Logins.mk (some y127) y48.2.users y48.2.counters y48.2.attempts))
  else
  (slices_Clone_api_Proof_api_Proof y10.1.proofs).bind fun y143 =>
  (clock_Add now_3 0).bind fun y151 =>
  chk (fitL y143.length ([(api_Proof.mk f_4 y151)] : List api_Proof).length) (
  chk y48.2.attempts.isSome (
  some (0, (login_Logins.mk y48.2.locks y48.2.users y48.2.counters (mput y48.2.attempts id_1 (login_attempt.mk y10.1.user y10.1.begun (y143 ++ ([(api_Proof.mk f_4 y151)] : List api_Proof))))))))
def login_Logins_Password (l_0 : login_Logins) (id_1 : Str) (password_2 : Str) (now_3 : Int) : Option (Int × login_Logins) :=
  (login_Logins_present__Logins_byPassword l_0 id_1 password_2 now_3 1).bind fun y10 =>
  some (y10.1, y10.2)
def strength_ordinary : Option (List Int) :=
  some (([1, 2, 3] : List Int))
def strength_has_1 (p_0 : api_Proof) (c1 : Int) : Option (Bool) :=
  some (p_0.Factor == c1)
def slices_IndexFunc_api_Proof_api_Proof__has_1_L1 : Nat → List api_Proof → Int → Int → Int → Option (Int)
 | 0, _, _, _, _ => none
 | n + 1, s_0, f_1_c0, t_7, t_8 =>
  if decide (t_8 < t_7) then
  (idx s_0 t_8).bind fun y6 =>
  (strength_has_1 y6 f_1_c0).bind fun y13 =>
  if y13 then
  some (t_8)
  else
  (slices_IndexFunc_api_Proof_api_Proof__has_1_L1 n) s_0 f_1_c0 t_7 (IntKind.i64.wrap (t_8 + 1))
  else
  some ((-1))
def slices_IndexFunc_api_Proof_api_Proof__has_1 (s_0 : List api_Proof) (c1_0 : Int) : Option (Int) :=
  slices_IndexFunc_api_Proof_api_Proof__has_1_L1 fuel s_0 c1_0 (s_0.length : Int) 0
def slices_ContainsFunc_api_Proof_api_Proof__has_1 (s_0 : List api_Proof) (c1_0 : Int) : Option (Bool) :=
  (slices_IndexFunc_api_Proof_api_Proof__has_1 s_0 c1_0).bind fun y5 =>
  some (decide (y5 ≥ 0))
def strength_has (l_0 : List api_Proof) (f_1 : Int) : Option (Bool) :=
  (slices_ContainsFunc_api_Proof_api_Proof__has_1 l_0 f_1).bind fun y10 =>
  some (y10)
def strength_count_B2 (r0 : List api_Proof → Int → List Int → Int → Option (Int)) (l_0 : List api_Proof) (n_3 : Int) (t_6 : List Int) (t_7 : Int) : Option (Int) :=
  r0 l_0 n_3 t_6 (IntKind.i64.wrap (t_7 + 1))
def strength_count_L1 : Nat → List api_Proof → Int → List Int → Int → Option (Int)
 | 0, _, _, _, _ => none
 | n + 1, l_0, n_3, t_6, t_7 =>
  if decide (t_7 < 3) then
  chk (t_6.length == 3) (
  (idx t_6 t_7).bind fun y10 =>
  (strength_has l_0 y10).bind fun y12 =>
  if y12 then
  strength_count_B2 (strength_count_L1 n) l_0 (IntKind.i64.wrap (n_3 + 1)) t_6 t_7
  else
  strength_count_B2 (strength_count_L1 n) l_0 n_3 t_6 t_7)
  else
  some (n_3)
def strength_count (l_0 : List api_Proof) : Option (Int) :=
  (strength_ordinary).bind fun y3 =>
  strength_count_L1 fuel l_0 0 y3 0
def strength_Level (l_0 : List api_Proof) : Option (Int) :=
  (strength_count l_0).bind fun y3 =>
  Option.bind (if decide (y3 > 0) then
  some true
  else
  (strength_has l_0 4).bind fun y16 =>
  some (!y16)
  ) fun z10 =>
  if z10 then
  some (y3)
  else
  some (1)
def login_Logins_Finish (l_0 : login_Logins) (id_1 : Str) (level_2 : Int) (now_3 : Int) : Option (Str × (List api_Proof) × Int × login_Logins) :=
  (login_Logins_find l_0 id_1 now_3).bind fun y12 =>
  if y12.2 != 0 then
  some ([], ([] : List api_Proof), y12.2, l_0)
  else
  (strength_Level y12.1.proofs).bind fun y27 =>
  if decide (y27 < level_2) then
  some ([], ([] : List api_Proof), 21, l_0)
  else
  (slices_Clone_api_Proof_api_Proof y12.1.proofs).bind fun y58 =>
  some (y12.1.user, y58, 0, (login_Logins.mk l_0.locks l_0.users l_0.counters (mdel l_0.attempts id_1)))
def codec_Int (n_0 : Int) : Option (Str) :=
  (lib_Itoa n_0).bind fun y1 =>
  some (y1)
def digest_Mac (key_0 : Str) (s_1 : Str) : Option (Str) :=
  (lib_Itoa (key_0.length : Int)).bind fun y1 =>
  chk (fitS y1 ([58])) (
  chk (fitS (y1 ++ ([58])) key_0) (
  chk (fitS ((y1 ++ ([58])) ++ key_0) s_1) (
  (digest_Text (((y1 ++ ([58])) ++ key_0) ++ s_1)).bind fun y8 =>
  chk (fitS ((y1 ++ ([58])) ++ key_0) y8) (
  (digest_Text (((y1 ++ ([58])) ++ key_0) ++ y8)).bind fun y13 =>
  some (y13)))))
def otp_code_L1 : Nat → Int → List Int → Int → Option (Str)
 | 0, _, _, _ => none
 | n + 1, n_5, out_6, t_15 =>
  if decide (t_15 < 6) then
  chk (inb (IntKind.i64.wrap (5 - t_15)) 6) (
  chk (inb (IntKind.i64.wrap (5 - t_15)) out_6.length) (
  (otp_code_L1 n) (IntKind.u64.wrap (n_5.tdiv 10)) (setAt out_6 (IntKind.i64.wrap (5 - t_15)) (IntKind.u8.wrap (IntKind.u64.wrap (48 + (Int.tmod n_5 10))))) (IntKind.i64.wrap (t_15 + 1))))
  else
  chk (out_6.length == 6) (
  some (bytesStr out_6))
def otp_code (secret_0 : Str) (counter_1 : Int) : Option (Str) :=
  (codec_Int counter_1).bind fun y1 =>
  (digest_Mac secret_0 y1).bind fun y5 =>
  (digest_Sum y5).bind fun y9 =>
  otp_code_L1 fuel (Int.tmod y9 1000000) ([0, 0, 0, 0, 0, 0]) 0
def otp_Code (secret_0 : Str) (counter_1 : Int) : Option (Str × Int) :=
  (fold_Clean secret_0).bind fun y1 =>
  if !y1 then
  some ([], 4)
  else
  if (decide (counter_1 < 0)) || (decide (counter_1 > 36650387592)) then
  some ([], 27)
  else
  (otp_code secret_0 counter_1).bind fun y14 =>
  some (y14, 0)
def login_Logins_last (l_0 : login_Logins) (user_1 : Str) : Option (Int) :=
  (some (mgetD l_0.counters user_1 0)).bind fun y14 =>
  if !(mhas l_0.counters user_1) then
  some ((-1))
  else
  some (y14)
def otp_six_1 (c_0 : Int) : Option (Bool) :=
  some ((decide (c_0 < 48)) || (decide (c_0 > 57)))
def slices_IndexFunc_byte_byte__six_1_L1 : Nat → List Int → Int → Int → Option (Int)
 | 0, _, _, _ => none
 | n + 1, s_0, t_7, t_8 =>
  if decide (t_8 < t_7) then
  (idx s_0 t_8).bind fun y4 =>
  (otp_six_1 y4).bind fun y10 =>
  if y10 then
  some (t_8)
  else
  (slices_IndexFunc_byte_byte__six_1_L1 n) s_0 t_7 (IntKind.i64.wrap (t_8 + 1))
  else
  some ((-1))
def slices_IndexFunc_byte_byte__six_1 (s_0 : List Int) : Option (Int) :=
  slices_IndexFunc_byte_byte__six_1_L1 fuel s_0 (s_0.length : Int) 0
def slices_ContainsFunc_byte_byte__six_1 (s_0 : List Int) : Option (Bool) :=
  (slices_IndexFunc_byte_byte__six_1 s_0).bind fun y3 =>
  some (decide (y3 ≥ 0))
def otp_six (s_0 : Str) : Option (Bool) :=
  Option.bind (if (s_0.length : Int) == 6 then
  chk (fitS s_0 []) (
  (slices_ContainsFunc_byte_byte__six_1 (strBytes s_0)).bind fun y19 =>
  some (!y19))
  else
  some false
  ) fun z3 =>
  some (z3)
def otp_form (secret_0 : Str) (s_1 : Str) : Option (Int) :=
  (fold_Clean secret_0).bind fun y1 =>
  Option.bind (if !y1 then
  some true
  else
  (otp_six s_1).bind fun y12 =>
  some (!y12)
  ) fun z7 =>
  if z7 then
  some (4)
  else
  some (0)
def otp_Counter (now_0 : Int) : Option (Int) :=
  (clock_Add now_0 0).bind fun y1 =>
  some (IntKind.i64.wrap (y1.tdiv 30))
def otp_VerifyAt_1 (c_0 : Int) (c1 : Str) (c2 : Str) : Option (Bool) :=
  (otp_code c1 c_0).bind fun y7 =>
  some (y7 == c2)
def otp_search__VerifyAt_1_L1 : Nat → Int → Str → Str → Int → Option (Int × Int)
 | 0, _, _, _, _ => none
 | n + 1, to_1, is_2_c0, is_2_c1, c_8 =>
  if decide (c_8 ≤ (gmin to_1 36650387592)) then
  (otp_VerifyAt_1 c_8 is_2_c0 is_2_c1).bind fun y6 =>
  if y6 then
  some (c_8, 0)
  else
  (otp_search__VerifyAt_1_L1 n) to_1 is_2_c0 is_2_c1 (IntKind.i64.wrap (c_8 + 1))
  else
  some (0, 11)
def otp_search__VerifyAt_1 (from_0 : Int) (to_1 : Int) (c2_0 : Str) (c2_1 : Str) : Option (Int × Int) :=
  otp_search__VerifyAt_1_L1 fuel to_1 c2_0 c2_1 (gmax from_0 0)
def otp_VerifyAt (secret_0 : Str) (last_1 : Int) (now_2 : Int) (skew_3 : Int) (s_4 : Str) : Option (Int × Int) :=
  (otp_form secret_0 s_4).bind fun y11 =>
  if y11 != 0 then
  some (0, y11)
  else
  if (decide (last_1 < (-1))) || (decide (last_1 > 36650387592)) then
  some (0, 27)
  else
  (otp_Counter now_2).bind fun y26 =>
  (otp_Counter now_2).bind fun y31 =>
  (otp_search__VerifyAt_1 (gmax (IntKind.i64.wrap (last_1 + 1)) (IntKind.i64.wrap (y26 - (IntKind.i64.wrap ((gmin (gmax skew_3 0) 600).tdiv 30))))) (IntKind.i64.wrap (y31 + (IntKind.i64.wrap ((gmin (gmax skew_3 0) 600).tdiv 30)))) secret_0 s_4).bind fun y40 =>
  some (y40.1, y40.2)
def login_Logins_byCode (l_0 : login_Logins) (user_1 : Str) (code_2 : Str) (now_3 : Int) : Option (Bool × login_Logins) :=
  (some (mgetD l_0.users user_1 (login_credentials.mk (api_Verifier.mk ([]) 0 ([])) ([])))).bind fun y14 =>
  if (!(mhas l_0.users user_1)) || (y14.code == ([])) then
  some (false, l_0)
  else
  (login_Logins_last l_0 user_1).bind fun y34 =>
  (otp_VerifyAt y14.code y34 now_3 60 code_2).bind fun y39 =>
  if y39.2 != 0 then
  some (false, l_0)
  else
  chk l_0.counters.isSome (
  some (true, (login_Logins.mk l_0.locks l_0.users (mput l_0.counters user_1 y39.1) l_0.attempts)))
def login_Logins_present__Logins_byCode (l_0 : login_Logins) (id_1 : Str) (text_2 : Str) (now_3 : Int) (f_4 : Int) : Option (Int × login_Logins) :=
  (login_Logins_find l_0 id_1 now_3).bind fun y10 =>
  if y10.2 != 0 then
  some (y10.2, l_0)
  else
  (login_attempt_has y10.1 f_4).bind fun y25 =>
  if y25 then
  some (12, l_0)
  else
  optC l_0.locks (
  (secret_Locks_Locked__nil y10.1.user now_3).bind fun y191 =>
  (login_Logins_byCode l_0 y10.1.user text_2 now_3).bind fun y197 =>
  if !y197.1 then
  optC y197.2.locks (
  (secret_Locks_Fail__nil y10.1.user now_3).bind fun y287 =>
  some (11, (login_Logins.mk none y197.2.users y197.2.counters y197.2.attempts)))
  fun z268 =>
  (secret_Locks_Fail z268 y10.1.user now_3).bind fun y276 =>
  some (11, (login_Logins.mk (some y276) y197.2.users y197.2.counters y197.2.attempts))
  else
  (slices_Clone_api_Proof_api_Proof y10.1.proofs).bind fun y292 =>
  (clock_Add now_3 0).bind fun y300 =>
  chk (fitL y292.length ([(api_Proof.mk f_4 y300)] : List api_Proof).length) (
  chk y197.2.attempts.isSome (
  some (0, (login_Logins.mk y197.2.locks y197.2.users y197.2.counters (mput y197.2.attempts id_1 (login_attempt.mk y10.1.user y10.1.begun (y292 ++ ([(api_Proof.mk f_4 y300)] : List api_Proof)))))))))
  fun z33 =>
  (secret_Locks_Locked z33 y10.1.user now_3).bind fun y41 =>
  if y41 then
  some (22, l_0)
  else
  (login_Logins_byCode l_0 y10.1.user text_2 now_3).bind fun y48 =>
  if !y48.1 then
  optC y48.2.locks (
  (secret_Locks_Fail__nil y10.1.user now_3).bind fun y138 =>
  some (11, (login_Logins.mk none y48.2.users y48.2.counters y48.2.attempts)))
  fun z119 =>
  (secret_Locks_Fail z119 y10.1.user now_3).bind fun y127 =>
  some (11, (login_Logins.mk (some y127) y48.2.users y48.2.counters y48.2.attempts))
  else
  (slices_Clone_api_Proof_api_Proof y10.1.proofs).bind fun y143 =>
  (clock_Add now_3 0).bind fun y151 =>
  chk (fitL y143.length ([(api_Proof.mk f_4 y151)] : List api_Proof).length) (
  chk y48.2.attempts.isSome (
  some (0, (login_Logins.mk y48.2.locks y48.2.users y48.2.counters (mput y48.2.attempts id_1 (login_attempt.mk y10.1.user y10.1.begun (y143 ++ ([(api_Proof.mk f_4 y151)] : List api_Proof))))))))
def login_Logins_Code (l_0 : login_Logins) (id_1 : Str) (code_2 : Str) (now_3 : Int) : Option (Int × login_Logins) :=
  (login_Logins_present__Logins_byCode l_0 id_1 code_2 now_3 2).bind fun y10 =>
  some (y10.1, y10.2)
def login_Logins_Locked (l_0 : login_Logins) (user_1 : Str) (now_2 : Int) : Option (Bool) :=
  (login_Logins_ready l_0).bind fun y10 =>
  Option.bind (if y10 then
  optC l_0.locks (
  (secret_Locks_Locked__nil user_1 now_2).bind fun y36 =>
  some false)
  fun z23 =>
  (secret_Locks_Locked z23 user_1 now_2).bind fun y31 =>
  some y31
  else
  some false
  ) fun z17 =>
  some (z17)
def law39_alive : Option (Bool) :=
  (law39_ann 5).bind fun y1 =>
  optC y1 (
  (law39_ann 2).bind fun y555 =>
  optC y555 (
  some (false))
  fun z563 =>
  some (false))
  fun z9 =>
  (law39_ann 2).bind fun y21 =>
  optC y21 (
  some (false))
  fun z29 =>
  (login_Logins_Begin z9 ([97, 49]) ([97, 110, 110]) 0).bind fun y41 =>
  (login_Logins_Begin y41.2 ([97, 49]) ([98, 111, 98]) 299).bind fun y56 =>
  (login_Logins_Password y56.2 ([97, 49]) ([119, 114, 111, 110, 103, 119, 111, 114, 100]) 1).bind fun y71 =>
  (login_Logins_Password y71.2 ([97, 49]) ([115, 101, 99, 114, 101, 116, 119, 111, 114, 100]) 2).bind fun y86 =>
  (login_Logins_Password y86.2 ([97, 49]) ([115, 101, 99, 114, 101, 116, 119, 111, 114, 100]) 3).bind fun y101 =>
  (login_Logins_Finish y101.2 ([97, 49]) 2 4).bind fun y116 =>
  (login_Logins_Finish y116.2.2.2 ([97, 49]) 1 5).bind fun y133 =>
  (login_Logins_Finish y133.2.2.2 ([97, 49]) 0 6).bind fun y150 =>
  (login_Logins_Begin z29 ([120]) ([97, 110, 110]) 0).bind fun y167 =>
  (login_Logins_Begin y167.2 ([121]) ([97, 110, 110]) 0).bind fun y182 =>
  (login_Logins_Password y182.2 ([120]) ([119, 114, 111, 110, 103, 119, 111, 114, 100]) 0).bind fun y197 =>
  (login_Logins_Password y197.2 ([120]) ([119, 114, 111, 110, 103, 119, 111, 114, 100]) 0).bind fun y212 =>
  (login_Logins_Password y212.2 ([120]) ([115, 101, 99, 114, 101, 116, 119, 111, 114, 100]) 0).bind fun y227 =>
  (otp_Code ([115, 101, 101, 100]) 0).bind fun y242 =>
  (login_Logins_Begin y150.2.2.2 ([98]) ([97, 110, 110]) 0).bind fun y247 =>
  (login_Logins_Code y247.2 ([98]) y242.1 0).bind fun y262 =>
  (login_Logins_Begin y262.2 ([99]) ([97, 110, 110]) 0).bind fun y277 =>
  (otp_Code ([115, 101, 101, 100]) 1).bind fun y292 =>
  (otp_Code ([115, 101, 101, 100]) 2).bind fun y297 =>
  (login_Logins_Code y277.2 ([99]) y242.1 0).bind fun y302 =>
  Option.bind (if ((((((((((y302.1 == 11) || ((y302.1 == 0) && ((y292.1 == y242.1) || (y297.1 == y242.1)))) && (y41.1 == 0)) && (y56.1 == 7)) && (y71.1 == 11)) && (y86.1 == 0)) && (y101.1 == 12)) && (y116.2.2.1 == 21)) && (y133.2.2.1 == 0)) && (y133.1 == ([97, 110, 110]))) && ((y133.2.1.length : Int) == 1) then
  (idx y133.2.1 0).bind fun y421 =>
  some (api_Proof.eqb y421 (api_Proof.mk 1 2))
  else
  some false
  ) fun z415 =>
  Option.bind (if ((((((z415 && (y150.2.2.1 == 6)) && (y197.1 == 11)) && (y212.1 == 11)) && (y227.1 == 22)) && (y242.2 == 0)) && (y247.1 == 0)) && (y262.1 == 0) then
  (login_Logins_Password y227.2 ([121]) ([115, 101, 99, 114, 101, 116, 119, 111, 114, 100]) 300).bind fun y492 =>
  some (y492.1 == 13, y492.2)
  else
  some (false, y227.2)
  ) fun z486 =>
  Option.bind (if z486.1 then
  (login_Logins_Open z486.2 0).bind fun y524 =>
  some (y524 == 2)
  else
  some false
  ) fun z518 =>
  Option.bind (if z518 then
  (login_Logins_Open z486.2 300).bind fun y537 =>
  some (y537 == 0)
  else
  some false
  ) fun z531 =>
  Option.bind (if z531 then
  (login_Logins_Locked z486.2 ([97, 110, 110]) 0).bind fun y550 =>
  some y550
  else
  some false
  ) fun z544 =>
  some (z544)
def ref22_Limited (n_0 : Int) : Option (Int) :=
  some (gmax 0 (gmin n_0 1099511627776))
def ref22_NewLocks (most_0 : Int) (window_1 : Int) (lock_2 : Int) : Option ((Option ref22_Locks) × Int) :=
  (ref22_Limited window_1).bind fun y1 =>
  (ref22_Limited lock_2).bind fun y6 =>
  if (((decide (most_0 < 1)) || (decide (most_0 > 256))) || (decide (y1 < 1))) || (decide (y6 < 1)) then
  some (none, 2)
  else
  some (some (ref22_Locks.mk true most_0 y1 y6 ([] : List ref22_record)), 0)
def ref39_New (most_0 : Int) (window_1 : Int) (lock_2 : Int) : Option ((Option ref39_Logins) × Int) :=
  (ref22_NewLocks most_0 window_1 lock_2).bind fun y1 =>
  optC y1.1 (
  if y1.2 != 0 then
  some (none, y1.2)
  else
  some (some (ref39_Logins.mk none ([] : List ref39_user) ([] : List ref39_attempt)), 0))
  fun z9 =>
  if y1.2 != 0 then
  some (none, y1.2)
  else
  some (some (ref39_Logins.mk (some z9) ([] : List ref39_user) ([] : List ref39_attempt)), 0)
def law39_verifier (o_0 : law39_Op) : Option (api_Verifier) :=
  (secret_Make o_0.Word ([115, 97, 108, 116]) (gmax 0 (gmin o_0.Rounds 3))).bind fun y15 =>
  some (y15.1)
def ref39_made (l_0 : ref39_Logins) : Option (Bool) :=
  some (!l_0.locks.isNone)
def ref01_letter (c_0 : Int) : Option (Bool) :=
  some (((decide (c_0 ≥ 97)) && (decide (c_0 ≤ 122))) || ((decide (c_0 ≥ 65)) && (decide (c_0 ≤ 90))))
def ref01_digit (c_0 : Int) : Option (Bool) :=
  some ((decide (c_0 ≥ 48)) && (decide (c_0 ≤ 57)))
def ref01_Word_L1 : Nat → Str → Int → Option (Bool)
 | 0, _, _ => none
 | n + 1, s_0, i_3 =>
  if decide (i_3 < (s_0.length : Int)) then
  chk (inb i_3 s_0.length) (
  (ref01_letter (byteAt s_0 i_3)).bind fun y3 =>
  Option.bind (if !y3 then
  chk (inb i_3 s_0.length) (
  (ref01_digit (byteAt s_0 i_3)).bind fun y15 =>
  some (!y15))
  else
  some false
  ) fun z9 =>
  Option.bind (if z9 then
  chk (inb i_3 s_0.length) (
  some ((byteAt s_0 i_3) != 45))
  else
  some false
  ) fun z21 =>
  Option.bind (if z21 then
  chk (inb i_3 s_0.length) (
  some ((byteAt s_0 i_3) != 95))
  else
  some false
  ) fun z29 =>
  Option.bind (if z29 then
  chk (inb i_3 s_0.length) (
  some ((byteAt s_0 i_3) != 46))
  else
  some false
  ) fun z37 =>
  Option.bind (if z37 then
  chk (inb i_3 s_0.length) (
  some ((byteAt s_0 i_3) != 58))
  else
  some false
  ) fun z45 =>
  if z45 then
  some (false)
  else
  (ref01_Word_L1 n) s_0 (IntKind.i64.wrap (i_3 + 1)))
  else
  some ((decide ((s_0.length : Int) ≥ 1)) && (decide ((s_0.length : Int) ≤ 64)))
def ref01_Word (s_0 : Str) : Option (Bool) :=
  ref01_Word_L1 fuel s_0 0
def ref03_ReadHex_B2 (r0 : Str → Int → Int → Option (Int × Int)) (s_0 : Str) (n_4 : Int) (i_5 : Int) (d_7 : Int) : Option (Int × Int) :=
  r0 s_0 (IntKind.u64.wrap ((IntKind.u64.wrap (n_4 * 16)) + d_7)) (IntKind.i64.wrap (i_5 + 1))
def ref03_ReadHex_L1 : Nat → Str → Int → Int → Option (Int × Int)
 | 0, _, _, _ => none
 | n + 1, s_0, n_4, i_5 =>
  if decide (i_5 < 16) then
  chk (inb i_5 s_0.length) (
  if (decide ((byteAt s_0 i_5) ≥ 48)) && (decide ((byteAt s_0 i_5) ≤ 57)) then
  ref03_ReadHex_B2 (ref03_ReadHex_L1 n) s_0 n_4 i_5 (IntKind.u64.wrap (IntKind.u8.wrap ((byteAt s_0 i_5) - 48)))
  else
  if (decide ((byteAt s_0 i_5) ≥ 97)) && (decide ((byteAt s_0 i_5) ≤ 102)) then
  ref03_ReadHex_B2 (ref03_ReadHex_L1 n) s_0 n_4 i_5 (IntKind.u64.wrap ((IntKind.u64.wrap (IntKind.u8.wrap ((byteAt s_0 i_5) - 97))) + 10))
  else
  some (0, 4))
  else
  some (n_4, 0)
def ref03_ReadHex (s_0 : Str) : Option (Int × Int) :=
  if (s_0.length : Int) != 16 then
  some (0, 4)
  else
  ref03_ReadHex_L1 fuel s_0 0 0
def ref22_Valid (v_0 : api_Verifier) : Option (Bool) :=
  (ref03_ReadHex v_0.Hash).bind fun y8 =>
  (ref01_Word v_0.Salt).bind fun y12 =>
  some (((y12 && (decide (v_0.Rounds ≥ 1))) && (decide (v_0.Rounds ≤ 64))) && (y8.2 == 0))
def ref01_Clean_L1 : Nat → Str → Int → Option (Bool)
 | 0, _, _ => none
 | n + 1, s_0, i_3 =>
  if decide (i_3 < (s_0.length : Int)) then
  chk (inb i_3 s_0.length) (
  Option.bind (if decide ((byteAt s_0 i_3) < 32) then
  some true
  else
  chk (inb i_3 s_0.length) (
  some (decide ((byteAt s_0 i_3) > 126)))
  ) fun z29 =>
  if z29 then
  some (false)
  else
  (ref01_Clean_L1 n) s_0 (IntKind.i64.wrap (i_3 + 1)))
  else
  some (true)
def ref01_Clean (s_0 : Str) : Option (Bool) :=
  Option.bind (if (decide ((s_0.length : Int) < 1)) || (decide ((s_0.length : Int) > 256)) then
  some true
  else
  chk (inb 0 s_0.length) (
  some ((byteAt s_0 0) == 32))
  ) fun z10 =>
  Option.bind (if z10 then
  some true
  else
  chk (inb (IntKind.i64.wrap ((s_0.length : Int) - 1)) s_0.length) (
  some ((byteAt s_0 (IntKind.i64.wrap ((s_0.length : Int) - 1))) == 32))
  ) fun z18 =>
  if z18 then
  some (false)
  else
  ref01_Clean_L1 fuel s_0 0
def ref39_at_L1 : Nat → ref39_Logins → Str → Int → Option (Int)
 | 0, _, _, _ => none
 | n + 1, ol_0, name_1, i_5 =>
  if decide (i_5 < (ol_0.users.length : Int)) then
  (idx ol_0.users i_5).bind fun y20 =>
  if y20.name == name_1 then
  some (i_5)
  else
  (ref39_at_L1 n) ol_0 name_1 (IntKind.i64.wrap (i_5 + 1))
  else
  some ((-1))
def ref39_at (l_0 : ref39_Logins) (name_1 : Str) : Option (Int) :=
  ref39_at_L1 fuel l_0 name_1 0
def ref39_Logins_Enroll_B1 (ol_0 : ref39_Logins) (code_3 : Str) (v_6_0 : Str) (v_6_1 : Int) (v_6_2 : Str) (k_9 : Int) : Option (Int × ref39_Logins) :=
  (idx ol_0.users k_9).bind fun y111 =>
  (idx (setAt ol_0.users k_9 (ref39_user.mk y111.name (api_Verifier.mk v_6_0 v_6_1 v_6_2) y111.code y111.last)) k_9).bind fun y123 =>
  some (0, (ref39_Logins.mk ol_0.locks (setAt (setAt ol_0.users k_9 (ref39_user.mk y111.name (api_Verifier.mk v_6_0 v_6_1 v_6_2) y111.code y111.last)) k_9 (ref39_user.mk y123.name y123.v code_3 y123.last)) ol_0.attempts))
def ref39_Logins_Enroll (l_0 : ref39_Logins) (name_1 : Str) (v_2 : api_Verifier) (code_3 : Str) : Option (Int × ref39_Logins) :=
  (ref39_made l_0).bind fun y15 =>
  if !y15 then
  some (1, l_0)
  else
  (ref01_Word name_1).bind fun y21 =>
  if !y21 then
  some (5, l_0)
  else
  (ref22_Valid v_2).bind fun y27 =>
  Option.bind (if !y27 then
  some true
  else
  Option.bind (if !(code_3 == ([])) then
  (ref01_Clean code_3).bind fun y48 =>
  some (!y48)
  else
  some false
  ) fun z42 =>
  some z42
  ) fun z34 =>
  if z34 then
  some (4, l_0)
  else
  (ref39_at l_0 name_1).bind fun y54 =>
  if decide (y54 < 0) then
  if decide ((l_0.users.length : Int) ≥ 256) then
  some (3, l_0)
  else
  chk (fitL l_0.users.length ([(ref39_user.mk name_1 (api_Verifier.mk ([]) 0 ([])) ([]) (-1))] : List ref39_user).length) (
  ref39_Logins_Enroll_B1 (ref39_Logins.mk l_0.locks (l_0.users ++ ([(ref39_user.mk name_1 (api_Verifier.mk ([]) 0 ([])) ([]) (-1))] : List ref39_user)) l_0.attempts) code_3 v_2.Salt v_2.Rounds v_2.Hash (l_0.users.length : Int))
  else
  ref39_Logins_Enroll_B1 l_0 code_3 v_2.Salt v_2.Rounds v_2.Hash y54
def ref04_Limit (t_0 : Int) : Option (Int) :=
  some (gmax 0 (gmin t_0 1099511627776))
def ref39_expired (a_0 : ref39_attempt) (now_1 : Int) : Option (Bool) :=
  (ref04_Limit now_1).bind fun y10 =>
  some (decide (y10 ≥ (IntKind.i64.wrap (a_0.begun + 300))))
def ref39_find_L1 : Nat → ref39_Logins → Str → Int → Int → Option (Int × Int)
 | 0, _, _, _, _ => none
 | n + 1, ol_0, id_1, now_2, i_8 =>
  if decide (i_8 < (ol_0.attempts.length : Int)) then
  (idx ol_0.attempts i_8).bind fun y26 =>
  if y26.id == id_1 then
  (idx ol_0.attempts i_8).bind fun y39 =>
  (ref39_expired y39 now_2).bind fun y51 =>
  if y51 then
  some ((-1), 13)
  else
  some (i_8, 0)
  else
  (ref39_find_L1 n) ol_0 id_1 now_2 (IntKind.i64.wrap (i_8 + 1))
  else
  some ((-1), 6)
def ref39_find (l_0 : ref39_Logins) (id_1 : Str) (now_2 : Int) : Option (Int × Int) :=
  (ref39_made l_0).bind fun y10 =>
  if !y10 then
  some ((-1), 1)
  else
  ref39_find_L1 fuel l_0 id_1 now_2 0
def ref39_Logins_Open_B2 (r0 : ref39_Logins → Int → Int → Int → Option (Int)) (ol_0 : ref39_Logins) (now_1 : Int) (n_5 : Int) (i_6 : Int) : Option (Int) :=
  r0 ol_0 now_1 n_5 (IntKind.i64.wrap (i_6 + 1))
def ref39_Logins_Open_L1 : Nat → ref39_Logins → Int → Int → Int → Option (Int)
 | 0, _, _, _, _ => none
 | n + 1, ol_0, now_1, n_5, i_6 =>
  if decide (i_6 < (ol_0.attempts.length : Int)) then
  (idx ol_0.attempts i_6).bind fun y20 =>
  (ref39_expired y20 now_1).bind fun y32 =>
  if !y32 then
  ref39_Logins_Open_B2 (ref39_Logins_Open_L1 n) ol_0 now_1 (IntKind.i64.wrap (n_5 + 1)) i_6
  else
  ref39_Logins_Open_B2 (ref39_Logins_Open_L1 n) ol_0 now_1 n_5 i_6
  else
  some (n_5)
def ref39_Logins_Open (l_0 : ref39_Logins) (now_1 : Int) : Option (Int) :=
  ref39_Logins_Open_L1 fuel l_0 now_1 0 0
def ref39_Logins_Begin_B2 (r0 : ref39_Logins → Str → Str → Int → List ref39_attempt → Int → Option (Int × ref39_Logins)) (ol_0 : ref39_Logins) (id_1 : Str) (user_2 : Str) (now_3 : Int) (kept_11 : List ref39_attempt) (i_12 : Int) : Option (Int × ref39_Logins) :=
  r0 ol_0 id_1 user_2 now_3 kept_11 (IntKind.i64.wrap (i_12 + 1))
def ref39_Logins_Begin_L1 : Nat → ref39_Logins → Str → Str → Int → List ref39_attempt → Int → Option (Int × ref39_Logins)
 | 0, _, _, _, _, _, _ => none
 | n + 1, ol_0, id_1, user_2, now_3, kept_11, i_12 =>
  if decide (i_12 < (ol_0.attempts.length : Int)) then
  (idx ol_0.attempts i_12).bind fun y52 =>
  (ref39_expired y52 now_3).bind fun y64 =>
  if !y64 then
  (idx ol_0.attempts i_12).bind fun y70 =>
  chk (fitL kept_11.length ([y70] : List ref39_attempt).length) (
  ref39_Logins_Begin_B2 (ref39_Logins_Begin_L1 n) ol_0 id_1 user_2 now_3 (kept_11 ++ ([y70] : List ref39_attempt)) i_12)
  else
  ref39_Logins_Begin_B2 (ref39_Logins_Begin_L1 n) ol_0 id_1 user_2 now_3 kept_11 i_12
  else
  (ref04_Limit now_3).bind fun y102 =>
  chk (fitL kept_11.length ([(ref39_attempt.mk id_1 user_2 y102 ([] : List api_Proof))] : List ref39_attempt).length) (
  some (0, (ref39_Logins.mk ol_0.locks ol_0.users (kept_11 ++ ([(ref39_attempt.mk id_1 user_2 y102 ([] : List api_Proof))] : List ref39_attempt)))))
def ref39_Logins_Begin (l_0 : ref39_Logins) (id_1 : Str) (user_2 : Str) (now_3 : Int) : Option (Int × ref39_Logins) :=
  (ref39_find l_0 id_1 now_3).bind fun y10 =>
  if y10.2 == 1 then
  some (y10.2, l_0)
  else
  (ref01_Word id_1).bind fun y16 =>
  Option.bind (if !y16 then
  some true
  else
  (ref01_Word user_2).bind fun y29 =>
  some (!y29)
  ) fun z23 =>
  if z23 then
  some (5, l_0)
  else
  if y10.2 == 0 then
  some (7, l_0)
  else
  (ref39_Logins_Open l_0 now_3).bind fun y36 =>
  if decide (y36 ≥ 256) then
  some (3, l_0)
  else
  ref39_Logins_Begin_L1 fuel l_0 id_1 user_2 now_3 ([] : List ref39_attempt) 0
def ref22_Locks_Made (k_0 : ref22_Locks) : Option (Bool) :=
  some (k_0.made)
def ref22_Locks_find_L1 : Nat → ref22_Locks → Str → Int → Option (Int)
 | 0, _, _, _ => none
 | n + 1, ok_0, user_1, i_5 =>
  if decide (i_5 < (ok_0.records.length : Int)) then
  (idx ok_0.records i_5).bind fun y8 =>
  if y8.user == user_1 then
  some (i_5)
  else
  (ref22_Locks_find_L1 n) ok_0 user_1 (IntKind.i64.wrap (i_5 + 1))
  else
  some ((-1))
def ref22_Locks_find (k_0 : ref22_Locks) (user_1 : Str) : Option (Int) :=
  ref22_Locks_find_L1 fuel k_0 user_1 0
def ref22_Locks_Locked (k_0 : ref22_Locks) (user_1 : Str) (now_2 : Int) : Option (Bool) :=
  (ref22_Locks_Made k_0).bind fun y4 =>
  if !y4 then
  some (false)
  else
  (ref22_Locks_find k_0 user_1).bind fun y10 =>
  Option.bind (if decide (y10 ≥ 0) then
  (ref22_Limited now_2).bind fun y24 =>
  (idx k_0.records y10).bind fun y29 =>
  some (decide (y24 < y29.until_))
  else
  some false
  ) fun z19 =>
  some (z19)
def ref22_Locks_Made__nil : Option (Bool) :=
  some (false)
def ref22_Locks_Locked__nil (user_1 : Str) (now_2 : Int) : Option (Bool) :=
  (ref22_Locks_Made__nil).bind fun y1 =>
  some (false)
def ref39_presented_L1 : Nat → ref39_Logins → Int → Int → Int → Str → Str → Int → List api_Proof → Int → Option (Int × Int)
 | 0, _, _, _, _, _, _, _, _, _ => none
 | n + 1, ol_0, f_2, now_3, k_10, a_12_0, a_12_1, a_12_2, a_12_3, i_13 =>
  if decide (i_13 < (a_12_3.length : Int)) then
  (idx a_12_3 i_13).bind fun y45 =>
  if y45.Factor == f_2 then
  some ((-1), 12)
  else
  (ref39_presented_L1 n) ol_0 f_2 now_3 k_10 a_12_0 a_12_1 a_12_2 a_12_3 (IntKind.i64.wrap (i_13 + 1))
  else
  optC ol_0.locks (
  (ref22_Locks_Locked__nil a_12_1 now_3).bind fun y68 =>
  if y68 then
  some ((-1), 22)
  else
  some (k_10, 0))
  fun z55 =>
  (ref22_Locks_Locked z55 a_12_1 now_3).bind fun y61 =>
  if y61 then
  some ((-1), 22)
  else
  some (k_10, 0)
def ref39_presented (l_0 : ref39_Logins) (id_1 : Str) (f_2 : Int) (now_3 : Int) : Option (Int × Int) :=
  (ref39_find l_0 id_1 now_3).bind fun y10 =>
  if y10.2 != 0 then
  some ((-1), y10.2)
  else
  (idx l_0.attempts y10.1).bind fun y16 =>
  ref39_presented_L1 fuel l_0 f_2 now_3 y10.1 y16.id y16.user y16.begun y16.proofs 0
def ref22_Password_L1 : Nat → Str → Int → Option (Bool)
 | 0, _, _ => none
 | n + 1, s_0, i_3 =>
  if decide (i_3 < (s_0.length : Int)) then
  chk (inb i_3 s_0.length) (
  Option.bind (if decide ((byteAt s_0 i_3) < 32) then
  some true
  else
  chk (inb i_3 s_0.length) (
  some (decide ((byteAt s_0 i_3) > 126)))
  ) fun z13 =>
  if z13 then
  some (false)
  else
  (ref22_Password_L1 n) s_0 (IntKind.i64.wrap (i_3 + 1)))
  else
  some (true)
def ref22_Password (s_0 : Str) : Option (Bool) :=
  if (decide ((s_0.length : Int) < 8)) || (decide ((s_0.length : Int) > 256)) then
  some (false)
  else
  ref22_Password_L1 fuel s_0 0
def ref03_Sum_L1 : Nat → Str → Int → Int → Option (Int)
 | 0, _, _, _ => none
 | n + 1, s_0, h_3, i_4 =>
  if decide (i_4 < (s_0.length : Int)) then
  chk (inb i_4 s_0.length) (
  (ref03_Sum_L1 n) s_0 (IntKind.u64.wrap ((bXor .u64 h_3 (IntKind.u64.wrap (byteAt s_0 i_4))) * 1099511628211)) (IntKind.i64.wrap (i_4 + 1)))
  else
  some (bXor .u64 (IntKind.u64.wrap ((bXor .u64 (IntKind.u64.wrap ((bXor .u64 h_3 (bShr .u64 h_3 33)) * 18397679294719823053)) (bShr .u64 (IntKind.u64.wrap ((bXor .u64 h_3 (bShr .u64 h_3 33)) * 18397679294719823053)) 33)) * 14181476777654086739)) (bShr .u64 (IntKind.u64.wrap ((bXor .u64 (IntKind.u64.wrap ((bXor .u64 h_3 (bShr .u64 h_3 33)) * 18397679294719823053)) (bShr .u64 (IntKind.u64.wrap ((bXor .u64 h_3 (bShr .u64 h_3 33)) * 18397679294719823053)) 33)) * 14181476777654086739)) 33))
def ref03_Sum (s_0 : Str) : Option (Int) :=
  ref03_Sum_L1 fuel s_0 14695981039346656037 0
def ref03_Hex_L1 : Nat → Int → Str → Int → Option (Str)
 | 0, _, _, _ => none
 | n + 1, n_0, s_3, i_4 =>
  if decide (i_4 < 16) then
  chk (inc (Int.tmod n_0 16) (IntKind.u64.wrap ((Int.tmod n_0 16) + 1)) ([48, 49, 50, 51, 52, 53, 54, 55, 56, 57, 97, 98, 99, 100, 101, 102]).length) (
  chk (fitS (cut ([48, 49, 50, 51, 52, 53, 54, 55, 56, 57, 97, 98, 99, 100, 101, 102]) (Int.tmod n_0 16) (IntKind.u64.wrap ((Int.tmod n_0 16) + 1))) s_3) (
  (ref03_Hex_L1 n) (IntKind.u64.wrap (n_0.tdiv 16)) ((cut ([48, 49, 50, 51, 52, 53, 54, 55, 56, 57, 97, 98, 99, 100, 101, 102]) (Int.tmod n_0 16) (IntKind.u64.wrap ((Int.tmod n_0 16) + 1))) ++ s_3) (IntKind.i64.wrap (i_4 + 1))))
  else
  some (s_3)
def ref03_Hex (n_0 : Int) : Option (Str) :=
  ref03_Hex_L1 fuel n_0 ([]) 0
def ref03_Text (s_0 : Str) : Option (Str) :=
  (ref03_Sum s_0).bind fun y1 =>
  (ref03_Hex y1).bind fun y5 =>
  some (y5)
def ref03_Iterate_L1 : Nat → Str → Int → Str → Int → Option (Str)
 | 0, _, _, _, _ => none
 | n + 1, salt_0, rounds_2, h_7, i_8 =>
  if (decide (i_8 < rounds_2)) && (decide (i_8 < 64)) then
  chk (fitS h_7 ([124])) (
  chk (fitS (h_7 ++ ([124])) salt_0) (
  (ref03_Text ((h_7 ++ ([124])) ++ salt_0)).bind fun y17 =>
  (ref03_Iterate_L1 n) salt_0 rounds_2 y17 (IntKind.i64.wrap (i_8 + 1))))
  else
  some (h_7)
def ref03_Iterate (salt_0 : Str) (s_1 : Str) (rounds_2 : Int) : Option (Str) :=
  chk (fitS salt_0 ([124])) (
  chk (fitS (salt_0 ++ ([124])) s_1) (
  (ref03_Text ((salt_0 ++ ([124])) ++ s_1)).bind fun y3 =>
  ref03_Iterate_L1 fuel salt_0 rounds_2 y3 0))
def ref22_Check (v_0 : api_Verifier) (password_1 : Str) : Option (Bool) :=
  (ref22_Valid v_0).bind fun y10 =>
  Option.bind (if y10 then
  (ref22_Password password_1).bind fun y21 =>
  some y21
  else
  some false
  ) fun z16 =>
  Option.bind (if z16 then
  (ref03_Iterate v_0.Salt password_1 v_0.Rounds).bind fun y32 =>
  some (v_0.Hash == y32)
  else
  some false
  ) fun z27 =>
  some (z27)
def ref22_Locks_Failures_B2 (r0 : ref22_Locks → Int → Int → Int → Int → Option (Int)) (ok_0 : ref22_Locks) (now_2 : Int) (i_7 : Int) (n_8 : Int) (j_9 : Int) : Option (Int) :=
  r0 ok_0 now_2 i_7 n_8 (IntKind.i64.wrap (j_9 + 1))
def ref22_Locks_Failures_L1 : Nat → ref22_Locks → Int → Int → Int → Int → Option (Int)
 | 0, _, _, _, _, _ => none
 | n + 1, ok_0, now_2, i_7, n_8, j_9 =>
  Option.bind (if decide (i_7 ≥ 0) then
  (idx ok_0.records i_7).bind fun y31 =>
  some (decide (j_9 < (y31.times.length : Int)))
  else
  some false
  ) fun z25 =>
  if z25 then
  (idx ok_0.records i_7).bind fun y43 =>
  (idx y43.times j_9).bind fun y54 =>
  if (decide (y54 ≤ now_2)) && (decide ((IntKind.i64.wrap (now_2 - y54)) < ok_0.window)) then
  ref22_Locks_Failures_B2 (ref22_Locks_Failures_L1 n) ok_0 now_2 i_7 (IntKind.i64.wrap (n_8 + 1)) j_9
  else
  ref22_Locks_Failures_B2 (ref22_Locks_Failures_L1 n) ok_0 now_2 i_7 n_8 j_9
  else
  some (n_8)
def ref22_Locks_Failures (k_0 : ref22_Locks) (user_1 : Str) (now_2 : Int) : Option (Int) :=
  (ref22_Locks_Made k_0).bind fun y4 =>
  if !y4 then
  some (0)
  else
  (ref22_Limited now_2).bind fun y10 =>
  (ref22_Locks_find k_0 user_1).bind fun y15 =>
  ref22_Locks_Failures_L1 fuel k_0 y10 y15 0 0
def ref04_Add (t_0 : Int) (d_1 : Int) : Option (Int) :=
  (ref04_Limit t_0).bind fun y1 =>
  (ref04_Limit d_1).bind fun y5 =>
  (ref04_Limit (IntKind.i64.wrap (y1 + y5))).bind fun y9 =>
  some (y9)
def ref22_Locks_Fail_B1 (ok_0 : ref22_Locks) (user_1 : Str) (now_2 : Int) (i_6 : Int) : Option (ref22_Locks) :=
  (idx ok_0.records i_6).bind fun y51 =>
  (idx ok_0.records i_6).bind fun y67 =>
  chk (fitL ([] : List Int).length y67.times.length) (
  chk (fitL (([] : List Int) ++ y67.times).length ([now_2] : List Int).length) (
  chk (inc (gmax 0 (IntKind.i64.wrap ((((([] : List Int) ++ y67.times) ++ ([now_2] : List Int)).length : Int) - 256))) (((([] : List Int) ++ y67.times) ++ ([now_2] : List Int)).length) ((([] : List Int) ++ y67.times) ++ ([now_2] : List Int)).length) (
  (idx ok_0.records i_6).bind fun y143 =>
  Option.bind (if decide (now_2 < y51.until_) then
  some true
  else
  (ref22_Locks_Failures (ref22_Locks.mk ok_0.made ok_0.most ok_0.window ok_0.lock (setAt ok_0.records i_6 (ref22_record.mk y143.user (cut ((([] : List Int) ++ y67.times) ++ ([now_2] : List Int)) (gmax 0 (IntKind.i64.wrap ((((([] : List Int) ++ y67.times) ++ ([now_2] : List Int)).length : Int) - 256))) (((([] : List Int) ++ y67.times) ++ ([now_2] : List Int)).length)) y143.until_))) user_1 now_2).bind fun y168 =>
  some (decide (y168 ≥ ok_0.most))
  ) fun z163 =>
  if z163 then
  (idx (setAt ok_0.records i_6 (ref22_record.mk y143.user (cut ((([] : List Int) ++ y67.times) ++ ([now_2] : List Int)) (gmax 0 (IntKind.i64.wrap ((((([] : List Int) ++ y67.times) ++ ([now_2] : List Int)).length : Int) - 256))) (((([] : List Int) ++ y67.times) ++ ([now_2] : List Int)).length)) y143.until_)) i_6).bind fun y263 =>
  (ref04_Add now_2 ok_0.lock).bind fun y276 =>
  (idx (setAt ok_0.records i_6 (ref22_record.mk y143.user (cut ((([] : List Int) ++ y67.times) ++ ([now_2] : List Int)) (gmax 0 (IntKind.i64.wrap ((((([] : List Int) ++ y67.times) ++ ([now_2] : List Int)).length : Int) - 256))) (((([] : List Int) ++ y67.times) ++ ([now_2] : List Int)).length)) y143.until_)) i_6).bind fun y281 =>
  some ((ref22_Locks.mk ok_0.made ok_0.most ok_0.window ok_0.lock (setAt (setAt ok_0.records i_6 (ref22_record.mk y143.user (cut ((([] : List Int) ++ y67.times) ++ ([now_2] : List Int)) (gmax 0 (IntKind.i64.wrap ((((([] : List Int) ++ y67.times) ++ ([now_2] : List Int)).length : Int) - 256))) (((([] : List Int) ++ y67.times) ++ ([now_2] : List Int)).length)) y143.until_)) i_6 (ref22_record.mk y281.user y281.times (gmax y263.until_ y276)))))
  else
  some ((ref22_Locks.mk ok_0.made ok_0.most ok_0.window ok_0.lock (setAt ok_0.records i_6 (ref22_record.mk y143.user (cut ((([] : List Int) ++ y67.times) ++ ([now_2] : List Int)) (gmax 0 (IntKind.i64.wrap ((((([] : List Int) ++ y67.times) ++ ([now_2] : List Int)).length : Int) - 256))) (((([] : List Int) ++ y67.times) ++ ([now_2] : List Int)).length)) y143.until_)))))))
def ref22_Locks_Fail (k_0 : ref22_Locks) (user_1 : Str) (now_2 : Int) : Option (ref22_Locks) :=
  (ref22_Locks_Made k_0).bind fun y4 =>
  Option.bind (if !y4 then
  some true
  else
  (ref01_Word user_1).bind fun y17 =>
  some (!y17)
  ) fun z11 =>
  if z11 then
  some (k_0)
  else
  (ref22_Limited now_2).bind fun y23 =>
  (ref22_Locks_find k_0 user_1).bind fun y28 =>
  if decide (y28 < 0) then
  if decide ((k_0.records.length : Int) ≥ 256) then
  some (k_0)
  else
  chk (fitL k_0.records.length ([(ref22_record.mk user_1 ([] : List Int) 0)] : List ref22_record).length) (
  ref22_Locks_Fail_B1 (ref22_Locks.mk k_0.made k_0.most k_0.window k_0.lock (k_0.records ++ ([(ref22_record.mk user_1 ([] : List Int) 0)] : List ref22_record))) user_1 y23 (IntKind.i64.wrap (((k_0.records ++ ([(ref22_record.mk user_1 ([] : List Int) 0)] : List ref22_record)).length : Int) - 1)))
  else
  ref22_Locks_Fail_B1 k_0 user_1 y23 y28
def ref22_Locks_Fail__nil (user_1 : Str) (now_2 : Int) : Option (Unit) :=
  (ref22_Locks_Made__nil).bind fun y1 =>
  some ()
def ref22_Locks_Clear (k_0 : ref22_Locks) (user_1 : Str) : Option (ref22_Locks) :=
  (ref22_Locks_Made k_0).bind fun y4 =>
  if !y4 then
  some (k_0)
  else
  (ref22_Locks_find k_0 user_1).bind fun y10 =>
  if decide (y10 ≥ 0) then
  chk (inc 0 y10 k_0.records.length) (
  chk (fitL ([] : List ref22_record).length (cut k_0.records 0 y10).length) (
  chk (inc (IntKind.i64.wrap (y10 + 1)) k_0.records.length k_0.records.length) (
  chk (fitL (([] : List ref22_record) ++ (cut k_0.records 0 y10)).length (cut k_0.records (IntKind.i64.wrap (y10 + 1)) k_0.records.length).length) (
  some ((ref22_Locks.mk k_0.made k_0.most k_0.window k_0.lock ((([] : List ref22_record) ++ (cut k_0.records 0 y10)) ++ (cut k_0.records (IntKind.i64.wrap (y10 + 1)) k_0.records.length))))))))
  else
  some (k_0)
def ref39_prove (l_0 : ref39_Logins) (k_1 : Int) (f_2 : Int) (now_3 : Int) : Option (ref39_Logins) :=
  (idx l_0.attempts k_1).bind fun y187 =>
  (ref04_Limit now_3).bind fun y201 =>
  chk (fitL y187.proofs.length ([(api_Proof.mk f_2 y201)] : List api_Proof).length) (
  (idx l_0.attempts k_1).bind fun y222 =>
  chk ((setAt l_0.attempts k_1 (ref39_attempt.mk y222.id y222.user y222.begun (y187.proofs ++ ([(api_Proof.mk f_2 y201)] : List api_Proof)))).all (fun x => x.id != y187.id || decide ((y187.proofs ++ ([(api_Proof.mk f_2 y201)] : List api_Proof)).length ≤ x.proofs.length))) (
  some ((ref39_Logins.mk l_0.locks l_0.users (setAt l_0.attempts k_1 (ref39_attempt.mk y222.id y222.user y222.begun (y187.proofs ++ ([(api_Proof.mk f_2 y201)] : List api_Proof))))))))
def ref22_Locks_Clear__nil (user_1 : Str) : Option (Unit) :=
  (ref22_Locks_Made__nil).bind fun y1 =>
  some ()
def ref39_Logins_Password (l_0 : ref39_Logins) (id_1 : Str) (password_2 : Str) (now_3 : Int) : Option (Int × ref39_Logins) :=
  (ref39_presented l_0 id_1 1 now_3).bind fun y10 =>
  if y10.2 != 0 then
  some (y10.2, l_0)
  else
  (idx l_0.attempts y10.1).bind fun y16 =>
  (ref39_at l_0 y16.user).bind fun y28 =>
  Option.bind (if decide (y28 < 0) then
  some true
  else
  (idx l_0.users y28).bind fun y41 =>
  (ref22_Check y41.v password_2).bind fun y50 =>
  some (!y50)
  ) fun z35 =>
  if z35 then
  optC l_0.locks (
  (ref22_Locks_Fail__nil y16.user now_3).bind fun y71 =>
  some (11, (ref39_Logins.mk none l_0.users l_0.attempts)))
  fun z56 =>
  (ref22_Locks_Fail z56 y16.user now_3).bind fun y62 =>
  some (11, (ref39_Logins.mk (some y62) l_0.users l_0.attempts))
  else
  optC l_0.locks (
  (ref22_Locks_Clear__nil y16.user).bind fun y106 =>
  (ref39_prove (ref39_Logins.mk none l_0.users l_0.attempts) y10.1 1 now_3).bind fun y111 =>
  some (0, y111))
  fun z76 =>
  (ref22_Locks_Clear z76 y16.user).bind fun y82 =>
  (ref39_prove (ref39_Logins.mk (some y82) l_0.users l_0.attempts) y10.1 1 now_3).bind fun y91 =>
  some (0, y91)
def law39_typed (o_0 : law39_Op) : Option (Str) :=
  if o_0.Level != 0 then
  (otp_Counter o_0.Now).bind fun y11 =>
  (otp_Code o_0.S y11).bind fun y15 =>
  some (y15.1)
  else
  some (o_0.Code)
def ref23_possible_L1 : Nat → Str → Int → Option (Bool)
 | 0, _, _ => none
 | n + 1, code_0, i_3 =>
  if decide (i_3 < (code_0.length : Int)) then
  chk (inb i_3 code_0.length) (
  Option.bind (if decide ((byteAt code_0 i_3) < 48) then
  some true
  else
  chk (inb i_3 code_0.length) (
  some (decide ((byteAt code_0 i_3) > 57)))
  ) fun z5 =>
  if z5 then
  some (false)
  else
  (ref23_possible_L1 n) code_0 (IntKind.i64.wrap (i_3 + 1)))
  else
  some ((code_0.length : Int) == 6)
def ref23_possible (code_0 : Str) : Option (Bool) :=
  ref23_possible_L1 fuel code_0 0
def ref23_Counter (now_0 : Int) : Option (Int) :=
  (ref04_Limit now_0).bind fun y1 =>
  some (IntKind.i64.wrap (y1.tdiv 30))
def ref02_Int_B2 (r0 : Int → Str → Int → Option (Str)) (n_0 : Int) (out_3 : Str) (m_4 : Int) (d_5 : Int) : Option (Str) :=
  chk (fitS (bytesStr ([IntKind.u8.wrap (IntKind.i64.wrap (48 + d_5))] : List Int)) out_3) (
  r0 n_0 ((bytesStr ([IntKind.u8.wrap (IntKind.i64.wrap (48 + d_5))] : List Int)) ++ out_3) (IntKind.i64.wrap (m_4.tdiv 10)))
def ref02_Int_L1 : Nat → Int → Str → Int → Option (Str)
 | 0, _, _, _ => none
 | n + 1, n_0, out_3, m_4 =>
  if m_4 != 0 then
  if decide ((Int.tmod m_4 10) < 0) then
  ref02_Int_B2 (ref02_Int_L1 n) n_0 out_3 m_4 (IntKind.i64.wrap (0 - (Int.tmod m_4 10)))
  else
  ref02_Int_B2 (ref02_Int_L1 n) n_0 out_3 m_4 (Int.tmod m_4 10)
  else
  if decide (n_0 < 0) then
  chk (fitS ([45]) out_3) (
  some (([45]) ++ out_3))
  else
  some (out_3)
def ref02_Int (n_0 : Int) : Option (Str) :=
  if n_0 == 0 then
  some ([48])
  else
  ref02_Int_L1 fuel n_0 ([]) n_0
def ref03_decimal : Nat → Int → Option (Str)
 | 0, _ => none
 | n + 1, n_0 =>
  if decide (n_0 < 10) then
  chk (inc n_0 (IntKind.i64.wrap (n_0 + 1)) ([48, 49, 50, 51, 52, 53, 54, 55, 56, 57]).length) (
  some (cut ([48, 49, 50, 51, 52, 53, 54, 55, 56, 57]) n_0 (IntKind.i64.wrap (n_0 + 1))))
  else
  (ref03_decimal n (IntKind.i64.wrap (n_0.tdiv 10))).bind fun y3 =>
  (ref03_decimal n (Int.tmod n_0 10)).bind fun y7 =>
  chk (fitS y3 y7) (
  some (y3 ++ y7))
def ref03_Mac (key_0 : Str) (s_1 : Str) : Option (Str) :=
  (ref03_decimal fuel (key_0.length : Int)).bind fun y1 =>
  chk (fitS y1 ([58])) (
  chk (fitS (y1 ++ ([58])) key_0) (
  chk (fitS ((y1 ++ ([58])) ++ key_0) s_1) (
  (ref03_Text (((y1 ++ ([58])) ++ key_0) ++ s_1)).bind fun y8 =>
  chk (fitS ((y1 ++ ([58])) ++ key_0) y8) (
  (ref03_Text (((y1 ++ ([58])) ++ key_0) ++ y8)).bind fun y13 =>
  some (y13)))))
def ref23_six_L1 : Nat → Str → Option (Str)
 | 0, _ => none
 | n + 1, s_3 =>
  if decide ((s_3.length : Int) < 6) then
  chk (fitS ([48]) s_3) (
  (ref23_six_L1 n) (([48]) ++ s_3))
  else
  some (s_3)
def ref23_six (n_0 : Int) : Option (Str) :=
  (ref02_Int n_0).bind fun y1 =>
  ref23_six_L1 fuel y1
def ref23_Code (secret_0 : Str) (counter_1 : Int) : Option (Str × Int) :=
  (ref01_Clean secret_0).bind fun y1 =>
  if !y1 then
  some ([], 4)
  else
  if (decide (counter_1 < 0)) || (decide (counter_1 > 36650387592)) then
  some ([], 27)
  else
  (ref02_Int counter_1).bind fun y14 =>
  (ref03_Mac secret_0 y14).bind fun y18 =>
  (ref03_Sum y18).bind fun y22 =>
  (ref23_six (IntKind.i64.wrap (Int.tmod y22 1000000))).bind fun y26 =>
  some (y26, 0)
def ref23_first_L1 : Nat → Str → Int → Str → Int → Option (Int × Int)
 | 0, _, _, _, _ => none
 | n + 1, secret_0, to_2, code_3, c_10 =>
  if decide (c_10 ≤ to_2) then
  (ref23_Code secret_0 c_10).bind fun y2 =>
  if (y2.2 == 0) && (y2.1 == code_3) then
  some (c_10, 0)
  else
  (ref23_first_L1 n) secret_0 to_2 code_3 (IntKind.i64.wrap (c_10 + 1))
  else
  some (0, 11)
def ref23_first (secret_0 : Str) (from_1 : Int) (to_2 : Int) (code_3 : Str) : Option (Int × Int) :=
  ref23_first_L1 fuel secret_0 to_2 code_3 from_1
def ref23_VerifyAt (secret_0 : Str) (last_1 : Int) (now_2 : Int) (skew_3 : Int) (code_4 : Str) : Option (Int × Int) :=
  (ref01_Clean secret_0).bind fun y1 =>
  Option.bind (if !y1 then
  some true
  else
  (ref23_possible code_4).bind fun y12 =>
  some (!y12)
  ) fun z7 =>
  if z7 then
  some (0, 4)
  else
  if (decide (last_1 < (-1))) || (decide (last_1 > 36650387592)) then
  some (0, 27)
  else
  (ref23_Counter now_2).bind fun y25 =>
  (ref23_Counter now_2).bind fun y29 =>
  (ref23_first secret_0 (gmax (IntKind.i64.wrap (last_1 + 1)) (IntKind.i64.wrap (y25 - (IntKind.i64.wrap ((gmax 0 (gmin skew_3 600)).tdiv 30))))) (gmin (IntKind.i64.wrap (y29 + (IntKind.i64.wrap ((gmax 0 (gmin skew_3 600)).tdiv 30)))) 36650387592) code_4).bind fun y33 =>
  some (y33.1, y33.2)
def ref39_Logins_Code (l_0 : ref39_Logins) (id_1 : Str) (code_2 : Str) (now_3 : Int) : Option (Int × ref39_Logins) :=
  (ref39_presented l_0 id_1 2 now_3).bind fun y10 =>
  if y10.2 != 0 then
  some (y10.2, l_0)
  else
  (idx l_0.attempts y10.1).bind fun y16 =>
  (ref39_at l_0 y16.user).bind fun y28 =>
  Option.bind (if decide (y28 < 0) then
  some true
  else
  (idx l_0.users y28).bind fun y41 =>
  some (y41.code == ([]))
  ) fun z35 =>
  if z35 then
  optC l_0.locks (
  (ref22_Locks_Fail__nil y16.user now_3).bind fun y66 =>
  some (11, (ref39_Logins.mk none l_0.users l_0.attempts)))
  fun z51 =>
  (ref22_Locks_Fail z51 y16.user now_3).bind fun y57 =>
  some (11, (ref39_Logins.mk (some y57) l_0.users l_0.attempts))
  else
  (idx l_0.users y28).bind fun y73 =>
  (idx l_0.users y28).bind fun y82 =>
  (ref23_VerifyAt y73.code y82.last now_3 60 code_2).bind fun y91 =>
  if y91.2 != 0 then
  optC l_0.locks (
  (ref22_Locks_Fail__nil y16.user now_3).bind fun y113 =>
  some (11, (ref39_Logins.mk none l_0.users l_0.attempts)))
  fun z98 =>
  (ref22_Locks_Fail z98 y16.user now_3).bind fun y104 =>
  some (11, (ref39_Logins.mk (some y104) l_0.users l_0.attempts))
  else
  (idx l_0.users y28).bind fun y118 =>
  (ref39_prove (ref39_Logins.mk l_0.locks (setAt l_0.users y28 (ref39_user.mk y118.name y118.v y118.code y91.1)) l_0.attempts) y10.1 2 now_3).bind fun y129 =>
  some (0, y129)
def ref34_Has_L1 : Nat → List api_Proof → Int → Int → Option (Bool)
 | 0, _, _, _ => none
 | n + 1, l_0, f_1, i_5 =>
  if decide (i_5 < (l_0.length : Int)) then
  (idx l_0 i_5).bind fun y4 =>
  if y4.Factor == f_1 then
  some (true)
  else
  (ref34_Has_L1 n) l_0 f_1 (IntKind.i64.wrap (i_5 + 1))
  else
  some (false)
def ref34_Has (l_0 : List api_Proof) (f_1 : Int) : Option (Bool) :=
  ref34_Has_L1 fuel l_0 f_1 0
def ref34_ordinary_B2 (r0 : List api_Proof → Int → Int → Option (Int)) (l_0 : List api_Proof) (n_3 : Int) (f_4 : Int) : Option (Int) :=
  r0 l_0 n_3 (IntKind.i64.wrap (f_4 + 1))
def ref34_ordinary_L1 : Nat → List api_Proof → Int → Int → Option (Int)
 | 0, _, _, _ => none
 | n + 1, l_0, n_3, f_4 =>
  if decide (f_4 ≤ 3) then
  (ref34_Has l_0 f_4).bind fun y4 =>
  if y4 then
  ref34_ordinary_B2 (ref34_ordinary_L1 n) l_0 (IntKind.i64.wrap (n_3 + 1)) f_4
  else
  ref34_ordinary_B2 (ref34_ordinary_L1 n) l_0 n_3 f_4
  else
  some (n_3)
def ref34_ordinary (l_0 : List api_Proof) : Option (Int) :=
  ref34_ordinary_L1 fuel l_0 0 1
def ref34_Level (l_0 : List api_Proof) : Option (Int) :=
  (ref34_ordinary l_0).bind fun y3 =>
  Option.bind (if y3 == 0 then
  (ref34_Has l_0 4).bind fun y14 =>
  some y14
  else
  some false
  ) fun z9 =>
  if z9 then
  some (1)
  else
  some (y3)
def ref39_without (l_0 : List ref39_attempt) (k_1 : Int) : Option (List ref39_attempt) :=
  chk (inc 0 k_1 l_0.length) (
  chk (fitL ([] : List ref39_attempt).length (cut l_0 0 k_1).length) (
  chk (inc (IntKind.i64.wrap (k_1 + 1)) l_0.length l_0.length) (
  chk (fitL (([] : List ref39_attempt) ++ (cut l_0 0 k_1)).length (cut l_0 (IntKind.i64.wrap (k_1 + 1)) l_0.length).length) (
  some ((([] : List ref39_attempt) ++ (cut l_0 0 k_1)) ++ (cut l_0 (IntKind.i64.wrap (k_1 + 1)) l_0.length))))))
def ref39_Logins_Finish (l_0 : ref39_Logins) (id_1 : Str) (level_2 : Int) (now_3 : Int) : Option (Str × (List api_Proof) × Int × ref39_Logins) :=
  (ref39_find l_0 id_1 now_3).bind fun y12 =>
  if y12.2 != 0 then
  some ([], ([] : List api_Proof), y12.2, l_0)
  else
  (idx l_0.attempts y12.1).bind fun y18 =>
  (ref34_Level y18.proofs).bind fun y37 =>
  if decide (y37 < level_2) then
  some ([], ([] : List api_Proof), 21, l_0)
  else
  (ref39_without l_0.attempts y12.1).bind fun y45 =>
  chk (y45.all (fun x => x.id != y18.id)) (
  some (y18.user, y18.proofs, 0, (ref39_Logins.mk l_0.locks l_0.users y45)))
def ref39_Same_L1 : Nat → List api_Proof → List api_Proof → Int → Option (Bool)
 | 0, _, _, _ => none
 | n + 1, a_0, b_1, i_5 =>
  if decide (i_5 < (a_0.length : Int)) then
  (idx a_0 i_5).bind fun y9 =>
  (idx b_1 i_5).bind fun y16 =>
  if !(api_Proof.eqb y9 y16) then
  some (false)
  else
  (ref39_Same_L1 n) a_0 b_1 (IntKind.i64.wrap (i_5 + 1))
  else
  some (true)
def ref39_Same (a_0 : List api_Proof) (b_1 : List api_Proof) : Option (Bool) :=
  if (a_0.length : Int) != (b_1.length : Int) then
  some (false)
  else
  ref39_Same_L1 fuel a_0 b_1 0
def ref39_Logins_Locked (l_0 : ref39_Logins) (user_1 : Str) (now_2 : Int) : Option (Bool) :=
  (ref39_made l_0).bind fun y10 =>
  Option.bind (if y10 then
  optC l_0.locks (
  (ref22_Locks_Locked__nil user_1 now_2).bind fun y34 =>
  some y34)
  fun z23 =>
  (ref22_Locks_Locked z23 user_1 now_2).bind fun y29 =>
  some y29
  else
  some false
  ) fun z17 =>
  some (z17)
def login_Logins_Drop_1 (__0 : Str) (a_1 : login_attempt) (c2 : Str) : Option (Bool) :=
  some (a_1.user == c2)
def maps_DeleteFunc_map_string_login_attempt_string_login_attempt__Logins_Drop_1_B2 (r0 : GMap Str login_attempt → Str → List Str → Option (GMap Str login_attempt)) (m_0 : GMap Str login_attempt) (del_1_c0 : Str) (t_7 : List Str) : Option (GMap Str login_attempt) :=
  r0 m_0 del_1_c0 t_7
def maps_DeleteFunc_map_string_login_attempt_string_login_attempt__Logins_Drop_1_L1 : Nat → GMap Str login_attempt → Str → List Str → Option (GMap Str login_attempt)
 | 0, _, _, _ => none
 | n + 1, m_0, del_1_c0, t_7 =>
  pickAny (mleft m_0 t_7) (
  some (m_0))
  fun e10 =>
  (login_Logins_Drop_1 e10.1 e10.2 del_1_c0).bind fun y25 =>
  if y25 then
  maps_DeleteFunc_map_string_login_attempt_string_login_attempt__Logins_Drop_1_B2 (maps_DeleteFunc_map_string_login_attempt_string_login_attempt__Logins_Drop_1_L1 n) (mdel m_0 e10.1) del_1_c0 (e10.1 :: t_7)
  else
  maps_DeleteFunc_map_string_login_attempt_string_login_attempt__Logins_Drop_1_B2 (maps_DeleteFunc_map_string_login_attempt_string_login_attempt__Logins_Drop_1_L1 n) m_0 del_1_c0 (e10.1 :: t_7)
def maps_DeleteFunc_map_string_login_attempt_string_login_attempt__Logins_Drop_1 (m_0 : GMap Str login_attempt) (c1_0 : Str) : Option (GMap Str login_attempt) :=
  maps_DeleteFunc_map_string_login_attempt_string_login_attempt__Logins_Drop_1_L1 fuel m_0 c1_0 ([] : List Str)
def login_Logins_Drop (l_0 : login_Logins) (user_1 : Str) : Option (Bool × login_Logins) :=
  (login_Logins_ready l_0).bind fun y15 =>
  if !y15 then
  some (false, l_0)
  else
  (some (mgetD l_0.users user_1 (login_credentials.mk (api_Verifier.mk ([]) 0 ([])) ([])))).bind fun y59 =>
  optC l_0.locks (
  (secret_Locks_Clear__nil user_1).bind fun y178 =>
  (maps_DeleteFunc_map_string_login_attempt_string_login_attempt__Logins_Drop_1 l_0.attempts user_1).bind fun y185 =>
  some (mhas l_0.users user_1, (login_Logins.mk none (mdel l_0.users user_1) (mdel l_0.counters user_1) y185)))
  fun z151 =>
  (secret_Locks_Clear z151 user_1).bind fun y159 =>
  (maps_DeleteFunc_map_string_login_attempt_string_login_attempt__Logins_Drop_1 l_0.attempts user_1).bind fun y172 =>
  some (mhas l_0.users user_1, (login_Logins.mk (some y159) (mdel l_0.users user_1) (mdel l_0.counters user_1) y172))
def ref39_Logins_Drop_B2 (r0 : ref39_Logins → Str → List ref39_attempt → Int → Option (Bool × ref39_Logins)) (ol_0 : ref39_Logins) (name_1 : Str) (kept_5 : List ref39_attempt) (i_6 : Int) : Option (Bool × ref39_Logins) :=
  r0 ol_0 name_1 kept_5 (IntKind.i64.wrap (i_6 + 1))
def ref39_Logins_Drop_L1 : Nat → ref39_Logins → Str → List ref39_attempt → Int → Option (Bool × ref39_Logins)
 | 0, _, _, _, _ => none
 | n + 1, ol_0, name_1, kept_5, i_6 =>
  if decide (i_6 < (ol_0.attempts.length : Int)) then
  (idx ol_0.attempts i_6).bind fun y26 =>
  if !(y26.user == name_1) then
  (idx ol_0.attempts i_6).bind fun y39 =>
  chk (fitL kept_5.length ([y39] : List ref39_attempt).length) (
  ref39_Logins_Drop_B2 (ref39_Logins_Drop_L1 n) ol_0 name_1 (kept_5 ++ ([y39] : List ref39_attempt)) i_6)
  else
  ref39_Logins_Drop_B2 (ref39_Logins_Drop_L1 n) ol_0 name_1 kept_5 i_6
  else
  optC ol_0.locks (
  (ref22_Locks_Clear__nil name_1).bind fun y120 =>
  (ref39_at (ref39_Logins.mk none ol_0.users kept_5) name_1).bind fun y127 =>
  if decide (y127 < 0) then
  some (false, (ref39_Logins.mk none ol_0.users kept_5))
  else
  chk (inc 0 y127 ol_0.users.length) (
  chk (fitL ([] : List ref39_user).length (cut ol_0.users 0 y127).length) (
  chk (inc (IntKind.i64.wrap (y127 + 1)) ol_0.users.length ol_0.users.length) (
  chk (fitL (([] : List ref39_user) ++ (cut ol_0.users 0 y127)).length (cut ol_0.users (IntKind.i64.wrap (y127 + 1)) ol_0.users.length).length) (
  some (true, (ref39_Logins.mk none ((([] : List ref39_user) ++ (cut ol_0.users 0 y127)) ++ (cut ol_0.users (IntKind.i64.wrap (y127 + 1)) ol_0.users.length)) kept_5)))))))
  fun z73 =>
  (ref22_Locks_Clear z73 name_1).bind fun y79 =>
  (ref39_at (ref39_Logins.mk (some y79) ol_0.users kept_5) name_1).bind fun y90 =>
  if decide (y90 < 0) then
  some (false, (ref39_Logins.mk (some y79) ol_0.users kept_5))
  else
  chk (inc 0 y90 ol_0.users.length) (
  chk (fitL ([] : List ref39_user).length (cut ol_0.users 0 y90).length) (
  chk (inc (IntKind.i64.wrap (y90 + 1)) ol_0.users.length ol_0.users.length) (
  chk (fitL (([] : List ref39_user) ++ (cut ol_0.users 0 y90)).length (cut ol_0.users (IntKind.i64.wrap (y90 + 1)) ol_0.users.length).length) (
  some (true, (ref39_Logins.mk (some y79) ((([] : List ref39_user) ++ (cut ol_0.users 0 y90)) ++ (cut ol_0.users (IntKind.i64.wrap (y90 + 1)) ol_0.users.length)) kept_5))))))
def ref39_Logins_Drop (l_0 : ref39_Logins) (name_1 : Str) : Option (Bool × ref39_Logins) :=
  (ref39_made l_0).bind fun y10 =>
  if !y10 then
  some (false, l_0)
  else
  ref39_Logins_Drop_L1 fuel l_0 name_1 ([] : List ref39_attempt) 0
def law39_LoginPlays_B2 (r0 : List law39_Op → login_Logins → ref39_Logins → Int → Option (Bool)) (l_2 : List law39_Op) (oa_7 : login_Logins) (ob_9 : ref39_Logins) (i_11 : Int) (same_13 : Bool) : Option (Bool) :=
  if !same_13 then
  some (false)
  else
  r0 l_2 oa_7 ob_9 (IntKind.i64.wrap (i_11 + 1))
def law39_LoginPlays_L1 : Nat → List law39_Op → login_Logins → ref39_Logins → Int → Option (Bool)
 | 0, _, _, _, _ => none
 | n + 1, l_2, oa_7, ob_9, i_11 =>
  if decide (i_11 < (l_2.length : Int)) then
  (idx l_2 i_11).bind fun y82 =>
  if y82.Kind == 0 then
  (law39_verifier y82).bind fun y190 =>
  (login_Logins_Enroll oa_7 y82.User y190 y82.Code).bind fun y196 =>
  (law39_verifier y82).bind fun y212 =>
  (ref39_Logins_Enroll ob_9 y82.User y212 y82.Code).bind fun y218 =>
  law39_LoginPlays_B2 (law39_LoginPlays_L1 n) l_2 y196.2 y218.2 i_11 (y196.1 == y218.1)
  else
  if y82.Kind == 1 then
  (login_Logins_Begin oa_7 y82.ID y82.User y82.Now).bind fun y322 =>
  (ref39_Logins_Begin ob_9 y82.ID y82.User y82.Now).bind fun y338 =>
  law39_LoginPlays_B2 (law39_LoginPlays_L1 n) l_2 y322.2 y338.2 i_11 (y322.1 == y338.1)
  else
  if y82.Kind == 2 then
  (login_Logins_Password oa_7 y82.ID y82.Word y82.Now).bind fun y423 =>
  (ref39_Logins_Password ob_9 y82.ID y82.Word y82.Now).bind fun y439 =>
  law39_LoginPlays_B2 (law39_LoginPlays_L1 n) l_2 y423.2 y439.2 i_11 (y423.1 == y439.1)
  else
  if y82.Kind == 3 then
  (law39_typed y82).bind fun y548 =>
  (login_Logins_Code oa_7 y82.ID y548 y82.Now).bind fun y554 =>
  (law39_typed y82).bind fun y570 =>
  (ref39_Logins_Code ob_9 y82.ID y570 y82.Now).bind fun y576 =>
  law39_LoginPlays_B2 (law39_LoginPlays_L1 n) l_2 y554.2 y576.2 i_11 (y554.1 == y576.1)
  else
  if y82.Kind == 4 then
  (login_Logins_Finish oa_7 y82.ID y82.Level y82.Now).bind fun y592 =>
  (ref39_Logins_Finish ob_9 y82.ID y82.Level y82.Now).bind fun y609 =>
  Option.bind (if y592.1 == y609.1 then
  (ref39_Same y592.2.1 y609.2.1).bind fun y634 =>
  some y634
  else
  some false
  ) fun z628 =>
  law39_LoginPlays_B2 (law39_LoginPlays_L1 n) l_2 y592.2.2.2 y609.2.2.2 i_11 (z628 && (y592.2.2.1 == y609.2.2.1))
  else
  if y82.Kind == 5 then
  (login_Logins_Locked oa_7 y82.User y82.Now).bind fun y650 =>
  (ref39_Logins_Locked ob_9 y82.User y82.Now).bind fun y655 =>
  law39_LoginPlays_B2 (law39_LoginPlays_L1 n) l_2 oa_7 ob_9 i_11 (y650 == y655)
  else
  if y82.Kind == 6 then
  (login_Logins_Drop oa_7 y82.User).bind fun y731 =>
  (ref39_Logins_Drop ob_9 y82.User).bind fun y747 =>
  law39_LoginPlays_B2 (law39_LoginPlays_L1 n) l_2 y731.2 y747.2 i_11 (y731.1 == y747.1)
  else
  (login_Logins_Open oa_7 y82.Now).bind fun y764 =>
  (ref39_Logins_Open ob_9 y82.Now).bind fun y769 =>
  law39_LoginPlays_B2 (law39_LoginPlays_L1 n) l_2 oa_7 ob_9 i_11 (y764 == y769)
  else
  (law39_alive).bind fun y775 =>
  some (y775)
def law39_LoginPlays (most_0 : Int) (lock_1 : Int) (l_2 : List law39_Op) : Option (Bool) :=
  (law39_few l_2).bind fun y3 =>
  if !y3 then
  (law39_alive).bind fun y9 =>
  some (y9)
  else
  (login_New most_0 100 lock_1).bind fun y14 =>
  optC y14.1 (
  (ref39_New most_0 100 lock_1).bind fun y794 =>
  optC y794.1 (
  if (y14.2 != y794.2) || (true != true) then
  some (false)
  else
  (law39_alive).bind fun y837 =>
  some (y837))
  fun z802 =>
  if (y14.2 != y794.2) || (true != false) then
  some (false)
  else
  (law39_alive).bind fun y823 =>
  some (y823))
  fun z22 =>
  (ref39_New most_0 100 lock_1).bind fun y34 =>
  optC y34.1 (
  if (y14.2 != y34.2) || (false != true) then
  some (false)
  else
  (law39_alive).bind fun y789 =>
  some (y789))
  fun z42 =>
  if (y14.2 != y34.2) || (false != false) then
  some (false)
  else
  law39_LoginPlays_L1 fuel l_2 z22 z42 0
end Go.KW.S
