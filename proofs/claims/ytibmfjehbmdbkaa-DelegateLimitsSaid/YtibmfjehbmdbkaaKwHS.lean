/- Own work: a part of the proofs of this seat. -/
import Derived.Test.YtibmfjehbmdbkaaKwMap3
import Derived.Test.YtibmfjehbmdbkaaKwSeg2
import Derived.Test.YtibmfjehbmdbkaaKwKeys
import Derived.Test.YtibmfjehbmdbkaaKwGlob
import Derived.Test.YtibmfjehbmdbkaaKwOffs
set_option linter.unusedVariables false
namespace Go.KW.S
open Go Go.KW
structure api_Window where
  From : Int
  Until : Int
  deriving DecidableEq
def api_Window.c : Cdc api_Window := Cdc.flat 2 (fun x => [.int .i64 x.From, .int .i64 x.Until]) (fun _ => rfl) (fun _ u h => by simp at h; rcases h with rfl | rfl <;> rfl)
def api_Window.eqb (x y : api_Window) : Bool := (x.From == y.From) && (x.Until == y.Until)
structure law35_Op where
  Call : Int
  Now : Int
  From : Str
  To : Str
  Scopes : List Str
  Window : api_Window
  deriving DecidableEq
def law35_Op.c : Cdc law35_Op :=
  { size := 7, rd := fun A w cs x => ∃ v0, cs = [.int .i64 x.Call, .int .i64 x.Now, str x.From, str x.To, v0, .int .i64 x.Window.From, .int .i64 x.Window.Until] ∧ SlR strC A w v0 x.Scopes
    len := fun h => by obtain ⟨_, h, _⟩ := h; rw [h]; rfl
    one := fun h u hu => by
      obtain ⟨v0, h, h0⟩ := h
      subst h
      simp at hu
      rcases hu with rfl | rfl | rfl | rfl | rfl | rfl | rfl
      all_goals first | rfl | exact SlR.oneCell (by assumption)
    step := fun h s => by
      obtain ⟨v0, h, h0⟩ := h
      exact ⟨v0, h, h0.step s⟩ }
structure delegate_way where
  from_ : Str
  to_ : Str
  deriving DecidableEq
def delegate_way.c : Cdc delegate_way := Cdc.flat 2 (fun x => [str x.from_, str x.to_]) (fun _ => rfl) (fun _ u h => by simp at h; rcases h with rfl | rfl <;> rfl)
def delegate_way.eqb (x y : delegate_way) : Bool := (x.from_ == y.from_) && (x.to_ == y.to_)
def delegate_way.ek (k : delegate_way) : Value := .agg #[str k.from_, str k.to_]
structure delegate_delegation where
  scopes : List Str
  window : api_Window
  deriving DecidableEq
def delegate_delegation.c : Cdc delegate_delegation :=
  { size := 3, rd := fun A w cs x => ∃ v0, cs = [v0, .int .i64 x.window.From, .int .i64 x.window.Until] ∧ SlR strC A w v0 x.scopes
    len := fun h => by obtain ⟨_, h, _⟩ := h; rw [h]; rfl
    one := fun h u hu => by
      obtain ⟨v0, h, h0⟩ := h
      subst h
      simp at hu
      rcases hu with rfl | rfl | rfl
      all_goals first | rfl | exact SlR.oneCell (by assumption)
    step := fun h s => by
      obtain ⟨v0, h, h0⟩ := h
      exact ⟨v0, h, h0.step s⟩ }
structure delegate_Delegations where
  ways : GMap delegate_way delegate_delegation
  deriving DecidableEq
def delegate_Delegations.O (τ : Nat → Nat) (ρ : Tags) (w : World) (g : Nat) (x : delegate_Delegations) : Prop := ∃ v0, Blk ρ (τ 0) w g (.cells #[v0] 54 (0, 0)) ∧ MapT delegate_way.ek delegate_delegation.c true ρ (τ 1) w v0 x.ways
structure ref35_one where
  from_ : Str
  to_ : Str
  scopes : List Str
  window : api_Window
  deriving DecidableEq
def ref35_one.c : Cdc ref35_one :=
  { size := 5, rd := fun A w cs x => ∃ v0, cs = [str x.from_, str x.to_, v0, .int .i64 x.window.From, .int .i64 x.window.Until] ∧ SlR strC A w v0 x.scopes
    len := fun h => by obtain ⟨_, h, _⟩ := h; rw [h]; rfl
    one := fun h u hu => by
      obtain ⟨v0, h, h0⟩ := h
      subst h
      simp at hu
      rcases hu with rfl | rfl | rfl | rfl | rfl
      all_goals first | rfl | exact SlR.oneCell (by assumption)
    step := fun h s => by
      obtain ⟨v0, h, h0⟩ := h
      exact ⟨v0, h, h0.step s⟩ }
structure ref35_Delegations where
  made : Bool
  l : List ref35_one
  deriving DecidableEq
def ref35_Delegations.c : Cdc ref35_Delegations :=
  { size := 2, rd := fun A w cs x => ∃ v0, cs = [.bool x.made, v0] ∧ SlR ref35_one.c A w v0 x.l
    len := fun h => by obtain ⟨_, h, _⟩ := h; rw [h]; rfl
    one := fun h u hu => by
      obtain ⟨v0, h, h0⟩ := h
      subst h
      simp at hu
      rcases hu with rfl | rfl
      all_goals first | rfl | exact SlR.oneCell (by assumption)
    step := fun h s => by
      obtain ⟨v0, h, h0⟩ := h
      exact ⟨v0, h, h0.step s⟩ }
def ref35_Delegations.O (τ : Nat → Nat) (ρ : Tags) (w : World) (g : Nat) (x : ref35_Delegations) : Prop := ∃ v0, Blk ρ (τ 0) w g (.cells #[.bool x.made, v0] 57 (0, 0)) ∧ OwnT ref35_one.c 65 ρ (τ 1) w v0 x.l
def delegate_New : Option (delegate_Delegations) :=
  some ((delegate_Delegations.mk (some [] : GMap delegate_way delegate_delegation)))
def delegate_Delegations_made (d_0 : delegate_Delegations) : Option (Bool) :=
  some (!d_0.ways.isNone)
def fold_upper (c_0 : Int) : Option (Bool) :=
  some ((decide (c_0 ≥ 65)) && (decide (c_0 ≤ 90)))
def fold_letter (c_0 : Int) : Option (Bool) :=
  (fold_upper c_0).bind fun y1 =>
    some (y1 || ((decide (c_0 ≥ 97)) && (decide (c_0 ≤ 122))))
def fold_digit (c_0 : Int) : Option (Bool) :=
  some ((decide (c_0 ≥ 48)) && (decide (c_0 ≤ 57)))
def fold_Word_1 (c_0 : Int) : Option (Bool) :=
  (fold_letter c_0).bind fun y1 =>
    Option.bind (if y1 then
        some true
      else
        (fold_digit c_0).bind fun y12 =>
          some y12
      ) fun z7 =>
      some ((((z7 || (c_0 == 45)) || (c_0 == 95)) || (c_0 == 46)) || (c_0 == 58))
def fold_made__Word_1_L1 : Nat → Str → Int → Int → Option (Bool)
  | 0, _, _, _ => none
  | n + 1, s_0, t_7, t_8 =>
    if decide (t_8 < t_7) then
      chk (inb t_8 s_0.length) (
        (fold_Word_1 (byteAt s_0 t_8)).bind fun y3 =>
          if !y3 then
            some (false)
          else
            (fold_made__Word_1_L1 n) s_0 t_7 (IntKind.i64.wrap (t_8 + 1)))
    else
      some ((!(s_0 == ([]))) && (decide ((s_0.length : Int) ≤ 64)))
def fold_made__Word_1 (s_0 : Str) : Option (Bool) :=
  fold_made__Word_1_L1 fuel s_0 (s_0.length : Int) 0
def fold_Word (s_0 : Str) : Option (Bool) :=
  (fold_made__Word_1 s_0).bind fun y1 =>
    some (y1)
def scope_valid (s_0 : Str) : Option (Bool) :=
  (fold_Word s_0).bind fun y1 =>
    Option.bind (if y1 then
        chk (inb 0 s_0.length) (
          some ((byteAt s_0 0) != 46))
      else
        some false
      ) fun z7 =>
      Option.bind (if z7 then
          chk (inb (IntKind.i64.wrap ((s_0.length : Int) - 1)) s_0.length) (
            some ((byteAt s_0 (IntKind.i64.wrap ((s_0.length : Int) - 1))) != 46))
        else
          some false
        ) fun z15 =>
        Option.bind (if z15 then
            (lib_Contains s_0 ([46, 46])).bind fun y28 =>
              some (!y28)
          else
            some false
          ) fun z23 =>
          some (z23)
def slices_Index_string_string_L1 : Nat → List Str → Str → Int → Int → Option (Int)
  | 0, _, _, _, _ => none
  | n + 1, s_0, v_1, t_7, t_8 =>
    if decide (t_8 < t_7) then
      (idx s_0 t_8).bind fun y4 =>
        if v_1 == y4 then
          some (t_8)
        else
          (slices_Index_string_string_L1 n) s_0 v_1 t_7 (IntKind.i64.wrap (t_8 + 1))
    else
      some ((-1))
def slices_Index_string_string (s_0 : List Str) (v_1 : Str) : Option (Int) :=
  slices_Index_string_string_L1 fuel s_0 v_1 (s_0.length : Int) 0
def slices_Contains_string_string (s_0 : List Str) (v_1 : Str) : Option (Bool) :=
  (slices_Index_string_string s_0 v_1).bind fun y3 =>
    some (decide (y3 ≥ 0))
def scope_Check_L1 : Nat → List Str → List Str → Int → Int → Option (Int)
  | 0, _, _, _, _ => none
  | n + 1, l_0, t_8, t_9, t_10 =>
    if decide (t_10 < t_9) then
      (idx t_8 t_10).bind fun y5 =>
        (scope_valid y5).bind fun y11 =>
          if !y11 then
            some (5)
          else
            chk (inc 0 t_10 l_0.length) (
              (slices_Contains_string_string (cut l_0 0 t_10) y5).bind fun y19 =>
                if y19 then
                  some (7)
                else
                  (scope_Check_L1 n) l_0 t_8 t_9 (IntKind.i64.wrap (t_10 + 1)))
    else
      some (0)
def scope_Check (l_0 : List Str) : Option (Int) :=
  if decide ((l_0.length : Int) > 16) then
    some (3)
  else
    scope_Check_L1 fuel l_0 l_0 (l_0.length : Int) 0
def clock_limited (t_0 : Int) : Option (Int) :=
  some (gmin (gmax t_0 0) 1099511627776)
def clock_Valid (t_0 : Int) : Option (Bool) :=
  (clock_limited t_0).bind fun y1 =>
    some (t_0 == y1)
def delegate_Delegations_Allow (d_0 : delegate_Delegations) (from_1 : Str) (to_2 : Str) (scopes_3 : List Str) (w_4 : api_Window) : Option (Int × delegate_Delegations) :=
  (delegate_Delegations_made d_0).bind fun y11 =>
    if !y11 then
      some (1, d_0)
    else
      (fold_Word from_1).bind fun y17 =>
        Option.bind (if !y17 then
            some true
          else
            (fold_Word to_2).bind fun y30 =>
              some (!y30)
          ) fun z24 =>
          if z24 then
            some (5, d_0)
          else
            if from_1 == to_2 then
              some (28, d_0)
            else
              (scope_Check scopes_3).bind fun y37 =>
                if y37 != 0 then
                  some (y37, d_0)
                else
                  if (scopes_3.length : Int) == 0 then
                    some (6, d_0)
                  else
                    (clock_Valid w_4.From).bind fun y44 =>
                      Option.bind (if !y44 then
                          some true
                        else
                          (clock_Valid w_4.Until).bind fun y57 =>
                            some (!y57)
                        ) fun z51 =>
                        if z51 || (decide (w_4.From ≥ w_4.Until)) then
                          some (2, d_0)
                        else
                          (some (mgetD d_0.ways (delegate_way.mk from_1 to_2) (delegate_delegation.mk ([] : List Str) (api_Window.mk 0 0)))).bind fun y120 =>
                            if (!(mhas d_0.ways (delegate_way.mk from_1 to_2))) && (decide ((mlen d_0.ways) ≥ 256)) then
                              some (3, d_0)
                            else
                              (lib_Clone scopes_3).bind fun y179 =>
                                chk d_0.ways.isSome (
                                  some (0, (delegate_Delegations.mk (mput d_0.ways (delegate_way.mk from_1 to_2) (delegate_delegation.mk y179 w_4)))))
def clock_Check (w_0 : api_Window) (t_1 : Int) (skew_2 : Int) : Option (Int) :=
  (clock_limited t_1).bind fun y8 =>
    if decide (w_0.From > w_0.Until) then
      some (2)
    else
      if decide ((IntKind.i64.wrap (y8 + (gmin (gmax skew_2 0) 600))) < w_0.From) then
        some (14)
      else
        if decide ((IntKind.i64.wrap (y8 - (gmin (gmax skew_2 0) 600))) ≥ w_0.Until) then
          some (13)
        else
          some (0)
def internal_stringslite_HasPrefix (s_0 : Str) (prefix_1 : Str) : Option (Bool) :=
  Option.bind (if decide ((s_0.length : Int) ≥ (prefix_1.length : Int)) then
      chk (inc 0 (prefix_1.length : Int) s_0.length) (
        some ((cut s_0 0 (prefix_1.length : Int)) == prefix_1))
    else
      some false
    ) fun z3 =>
    some (z3)
def strings_HasPrefix (s_0 : Str) (prefix_1 : Str) : Option (Bool) :=
  (internal_stringslite_HasPrefix s_0 prefix_1).bind fun y1 =>
    some (y1)
def scope_Implies (a_0 : Str) (b_1 : Str) : Option (Bool) :=
  (scope_valid a_0).bind fun y1 =>
    Option.bind (if y1 then
        (scope_valid b_1).bind fun y12 =>
          some y12
      else
        some false
      ) fun z7 =>
      Option.bind (if z7 then
          Option.bind (if a_0 == b_1 then
              some true
            else
              chk (fitS a_0 ([46])) (
                (strings_HasPrefix b_1 (a_0 ++ ([46]))).bind fun y31 =>
                  some y31)
            ) fun z25 =>
            some z25
        else
          some false
        ) fun z18 =>
        some (z18)
def scope_covered_L1 : Nat → Str → List Str → Int → Int → Option (Bool)
  | 0, _, _, _, _ => none
  | n + 1, s_0, t_7, t_8, t_9 =>
    if decide (t_9 < t_8) then
      (idx t_7 t_9).bind fun y4 =>
        (scope_Implies y4 s_0).bind fun y10 =>
          if y10 then
            some (true)
          else
            (scope_covered_L1 n) s_0 t_7 t_8 (IntKind.i64.wrap (t_9 + 1))
    else
      some (false)
def scope_covered (s_0 : Str) (l_1 : List Str) : Option (Bool) :=
  scope_covered_L1 fuel s_0 l_1 (l_1.length : Int) 0
def scope_Within_L1 : Nat → List Str → List Str → Int → Int → Option (Bool)
  | 0, _, _, _, _ => none
  | n + 1, b_1, t_7, t_8, t_9 =>
    if decide (t_9 < t_8) then
      (idx t_7 t_9).bind fun y6 =>
        (scope_covered y6 b_1).bind fun y12 =>
          if !y12 then
            some (false)
          else
            (scope_Within_L1 n) b_1 t_7 t_8 (IntKind.i64.wrap (t_9 + 1))
    else
      some (true)
def scope_Within (a_0 : List Str) (b_1 : List Str) : Option (Bool) :=
  scope_Within_L1 fuel b_1 a_0 (a_0.length : Int) 0
def delegate_Delegations_May (d_0 : delegate_Delegations) (from_1 : Str) (to_2 : Str) (scopes_3 : List Str) (now_4 : Int) : Option (Int) :=
  (delegate_Delegations_made d_0).bind fun y6 =>
    if !y6 then
      some (1)
    else
      (some (mgetD d_0.ways (delegate_way.mk from_1 to_2) (delegate_delegation.mk ([] : List Str) (api_Window.mk 0 0)))).bind fun y16 =>
        if !(mhas d_0.ways (delegate_way.mk from_1 to_2)) then
          some (11)
        else
          (clock_Check y16.window now_4 0).bind fun y28 =>
            if y28 != 0 then
              some (y28)
            else
              (scope_Within scopes_3 y16.scopes).bind fun y34 =>
                if !y34 then
                  some (19)
                else
                  some (0)
def delegate_Delegations_Chain_L2 (r0 : delegate_Delegations → List Str → List Str → Int → List Str → Int → Int → Option (Int)) : Nat → delegate_Delegations → List Str → List Str → Int → Int → Option (Int)
  | 0, _, _, _, _, _ => none
  | n + 1, od_0, users_1, scopes_2, now_3, i_11 =>
    if decide (i_11 < (users_1.length : Int)) then
      (idx users_1 (IntKind.i64.wrap (i_11 - 1))).bind fun y42 =>
        (idx users_1 i_11).bind fun y49 =>
          (delegate_Delegations_May od_0 y42 y49 scopes_2 now_3).bind fun y56 =>
            if y56 != 0 then
              some (y56)
            else
              (delegate_Delegations_Chain_L2 r0 n) od_0 users_1 scopes_2 now_3 (IntKind.i64.wrap (i_11 + 1))
    else
      some (0)
def delegate_Delegations_Chain_L1 : Nat → delegate_Delegations → List Str → List Str → Int → List Str → Int → Int → Option (Int)
  | 0, _, _, _, _, _, _, _ => none
  | n + 1, od_0, users_1, scopes_2, now_3, t_19, t_20, t_21 =>
    if decide (t_21 < t_20) then
      (idx t_19 t_21).bind fun y19 =>
        chk (inc 0 t_21 users_1.length) (
          (slices_Contains_string_string (cut users_1 0 t_21) y19).bind fun y30 =>
            if y30 then
              some (28)
            else
              (delegate_Delegations_Chain_L1 n) od_0 users_1 scopes_2 now_3 t_19 t_20 (IntKind.i64.wrap (t_21 + 1)))
    else
      delegate_Delegations_Chain_L2 (delegate_Delegations_Chain_L1 n) fuel od_0 users_1 scopes_2 now_3 1
def delegate_Delegations_Chain (d_0 : delegate_Delegations) (users_1 : List Str) (scopes_2 : List Str) (now_3 : Int) : Option (Int) :=
  (delegate_Delegations_made d_0).bind fun y8 =>
    if !y8 then
      some (1)
    else
      if decide ((users_1.length : Int) > 5) then
        some (3)
      else
        delegate_Delegations_Chain_L1 fuel d_0 users_1 scopes_2 now_3 users_1 (users_1.length : Int) 0
def delegate_Delegations_Reach_B4 (r0 : delegate_Delegations → Str → Str → Int → GMap Str Bool → List Str → Option (List Str)) (r1 : delegate_Delegations → Str → Str → Int → GMap Str Bool → List Str → List delegate_way → Option (List Str)) (od_0 : delegate_Delegations) (to_1 : Str) (s_2 : Str) (now_3 : Int) (seen_9 : GMap Str Bool) (queue_10 : List Str) (t_27 : List delegate_way) : Option (List Str) :=
  r1 od_0 to_1 s_2 now_3 seen_9 queue_10 t_27
def delegate_Delegations_Reach_B3 (r0 : delegate_Delegations → Str → Str → Int → GMap Str Bool → List Str → Option (List Str)) (r1 : delegate_Delegations → Str → Str → Int → GMap Str Bool → List Str → List delegate_way → Option (List Str)) (od_0 : delegate_Delegations) (to_1 : Str) (s_2 : Str) (now_3 : Int) (seen_9 : GMap Str Bool) (queue_10 : List Str) (k_11_0 : Str) (k_11_1 : Str) (t_27 : List delegate_way) (t_56 : Bool) : Option (List Str) :=
  if t_56 then
    chk seen_9.isSome (
      chk (fitL queue_10.length ([k_11_0] : List Str).length) (
        delegate_Delegations_Reach_B4 r0 r1 od_0 to_1 s_2 now_3 (mput seen_9 k_11_0 true) (queue_10 ++ ([k_11_0] : List Str)) t_27))
  else
    delegate_Delegations_Reach_B4 r0 r1 od_0 to_1 s_2 now_3 seen_9 queue_10 t_27
def delegate_Delegations_Reach_L2 (r0 : delegate_Delegations → Str → Str → Int → GMap Str Bool → List Str → Option (List Str)) : Nat → delegate_Delegations → Str → Str → Int → GMap Str Bool → List Str → List delegate_way → Option (List Str)
  | 0, _, _, _, _, _, _, _ => none
  | n + 1, od_0, to_1, s_2, now_3, seen_9, queue_10, t_27 =>
    pickAny (mleft od_0.ways t_27) (
        chk (inc 1 queue_10.length queue_10.length) (
          r0 od_0 to_1 s_2 now_3 seen_9 (cut queue_10 1 queue_10.length)))
      fun e41 =>
        (idx queue_10 0).bind fun y114 =>
          if e41.1.to_ == y114 then
            (some (mgetD seen_9 e41.1.from_ false)).bind fun y126 =>
              if !y126 then
                (delegate_Delegations_May od_0 e41.1.from_ e41.1.to_ ([s_2] : List Str) now_3).bind fun y136 =>
                  delegate_Delegations_Reach_B3 r0 (delegate_Delegations_Reach_L2 r0 n) od_0 to_1 s_2 now_3 seen_9 queue_10 e41.1.from_ e41.1.to_ (e41.1 :: t_27) (y136 == 0)
              else
                delegate_Delegations_Reach_B3 r0 (delegate_Delegations_Reach_L2 r0 n) od_0 to_1 s_2 now_3 seen_9 queue_10 e41.1.from_ e41.1.to_ (e41.1 :: t_27) false
          else
            delegate_Delegations_Reach_B3 r0 (delegate_Delegations_Reach_L2 r0 n) od_0 to_1 s_2 now_3 seen_9 queue_10 e41.1.from_ e41.1.to_ (e41.1 :: t_27) false
def delegate_Delegations_Reach_L1 : Nat → delegate_Delegations → Str → Str → Int → GMap Str Bool → List Str → Option (List Str)
  | 0, _, _, _, _, _, _ => none
  | n + 1, od_0, to_1, s_2, now_3, seen_9, queue_10 =>
    if decide ((queue_10.length : Int) > 0) then
      delegate_Delegations_Reach_L2 (delegate_Delegations_Reach_L1 n) fuel od_0 to_1 s_2 now_3 seen_9 queue_10 ([] : List delegate_way)
    else
      (lib_SortedKeys (mdel seen_9 to_1)).bind fun y172 =>
        some (y172)
def delegate_Delegations_Reach (d_0 : delegate_Delegations) (to_1 : Str) (s_2 : Str) (now_3 : Int) : Option (List Str) :=
  (delegate_Delegations_made d_0).bind fun y6 =>
    if !y6 then
      some (([] : List Str))
    else
      chk ((some [] : GMap Str Bool).isSome) (
        delegate_Delegations_Reach_L1 fuel d_0 to_1 s_2 now_3 (mput (some [] : GMap Str Bool) to_1 true) ([to_1] : List Str))
def scope_Sorted_B2 (r0 : List Str → List Str → List Str → Int → Int → Option (List Str)) (l_0 : List Str) (out_3 : List Str) (t_8 : List Str) (t_9 : Int) (t_10 : Int) : Option (List Str) :=
  r0 l_0 out_3 t_8 t_9 (IntKind.i64.wrap (t_10 + 1))
def scope_Sorted_L3 (r0 : List Str → List Str → List Str → Int → Int → Option (List Str)) : Nat → List Str → List Str → Str → List Str → Int → Int → List Str → Int → Int → Option (List Str)
  | 0, _, _, _, _, _, _, _, _, _ => none
  | n + 1, l_0, out_3, s_5, t_8, t_9, t_10, t_25, t_26, t_27 =>
    if decide (t_27 < t_26) then
      (idx t_25 t_27).bind fun y38 =>
        Option.bind (if !(y38 == s_5) then
            (scope_Implies y38 s_5).bind fun y51 =>
              some y51
          else
            some false
          ) fun z46 =>
          if z46 then
            scope_Sorted_B2 r0 l_0 out_3 t_8 t_9 t_10
          else
            (scope_Sorted_L3 r0 n) l_0 out_3 s_5 t_8 t_9 t_10 t_25 t_26 (IntKind.i64.wrap (t_27 + 1))
    else
      chk (fitL out_3.length ([s_5] : List Str).length) (
        scope_Sorted_B2 r0 l_0 (out_3 ++ ([s_5] : List Str)) t_8 t_9 t_10)
def scope_Sorted_L1 : Nat → List Str → List Str → List Str → Int → Int → Option (List Str)
  | 0, _, _, _, _, _ => none
  | n + 1, l_0, out_3, t_8, t_9, t_10 =>
    if decide (t_10 < t_9) then
      (idx t_8 t_10).bind fun y8 =>
        (scope_valid y8).bind fun y14 =>
          Option.bind (if !y14 then
              some true
            else
              chk (inc 0 t_10 l_0.length) (
                (slices_Contains_string_string (cut l_0 0 t_10) y8).bind fun y28 =>
                  some y28)
            ) fun z20 =>
            if z20 then
              scope_Sorted_B2 (scope_Sorted_L1 n) l_0 out_3 t_8 t_9 t_10
            else
              scope_Sorted_L3 (scope_Sorted_L1 n) fuel l_0 out_3 y8 t_8 t_9 t_10 l_0 (l_0.length : Int) 0
    else
      (lib_Sort out_3).bind fun y74 =>
        some (y74)
def scope_Sorted (l_0 : List Str) : Option (List Str) :=
  scope_Sorted_L1 fuel l_0 ([] : List Str) l_0 (l_0.length : Int) 0
def delegate_Delegations_Scopes (d_0 : delegate_Delegations) (from_1 : Str) (to_2 : Str) (now_3 : Int) : Option (List Str) :=
  (delegate_Delegations_May d_0 from_1 to_2 ([] : List Str) now_3).bind fun y6 =>
    if y6 != 0 then
      some (([] : List Str))
    else
      (some (mgetD d_0.ways (delegate_way.mk from_1 to_2) (delegate_delegation.mk ([] : List Str) (api_Window.mk 0 0)))).bind fun y16 =>
        (scope_Sorted y16.scopes).bind fun y20 =>
          some (y20)
def ref03_Same_L1 : Nat → List Str → List Str → Int → Option (Bool)
  | 0, _, _, _ => none
  | n + 1, a_0, b_1, i_5 =>
    if decide (i_5 < (a_0.length : Int)) then
      (idx a_0 i_5).bind fun y9 =>
        (idx b_1 i_5).bind fun y15 =>
          if !(y9 == y15) then
            some (false)
          else
            (ref03_Same_L1 n) a_0 b_1 (IntKind.i64.wrap (i_5 + 1))
    else
      some (true)
def ref03_Same (a_0 : List Str) (b_1 : List Str) : Option (Bool) :=
  if (a_0.length : Int) != (b_1.length : Int) then
    some (false)
  else
    ref03_Same_L1 fuel a_0 b_1 0
def delegate_Delegations_Revoke (d_0 : delegate_Delegations) (from_1 : Str) (to_2 : Str) : Option (Bool × delegate_Delegations) :=
  (delegate_Delegations_made d_0).bind fun y4 =>
    if !y4 then
      some (false, d_0)
    else
      (some (mgetD d_0.ways (delegate_way.mk from_1 to_2) (delegate_delegation.mk ([] : List Str) (api_Window.mk 0 0)))).bind fun y14 =>
        some (mhas d_0.ways (delegate_way.mk from_1 to_2), (delegate_Delegations.mk (mdel d_0.ways (delegate_way.mk from_1 to_2))))
def delegate_Delegations_Drop_1 (k_0 : delegate_way) (__1 : delegate_delegation) (c2 : Str) : Option (Bool) :=
  some ((k_0.from_ == c2) || (k_0.to_ == c2))
def maps_DeleteFunc_map_delegate_way_delegate_delegation_delegate_way_delegate_delegation__Delegations_Drop_1_B2 (r0 : GMap delegate_way delegate_delegation → Str → List delegate_way → Option (GMap delegate_way delegate_delegation)) (m_0 : GMap delegate_way delegate_delegation) (del_1_c0 : Str) (t_7 : List delegate_way) : Option (GMap delegate_way delegate_delegation) :=
  r0 m_0 del_1_c0 t_7
def maps_DeleteFunc_map_delegate_way_delegate_delegation_delegate_way_delegate_delegation__Delegations_Drop_1_L1 : Nat → GMap delegate_way delegate_delegation → Str → List delegate_way → Option (GMap delegate_way delegate_delegation)
  | 0, _, _, _ => none
  | n + 1, m_0, del_1_c0, t_7 =>
    pickAny (mleft m_0 t_7) (
        some (m_0))
      fun e10 =>
        (delegate_Delegations_Drop_1 e10.1 e10.2 del_1_c0).bind fun y32 =>
          if y32 then
            maps_DeleteFunc_map_delegate_way_delegate_delegation_delegate_way_delegate_delegation__Delegations_Drop_1_B2 (maps_DeleteFunc_map_delegate_way_delegate_delegation_delegate_way_delegate_delegation__Delegations_Drop_1_L1 n) (mdel m_0 e10.1) del_1_c0 (e10.1 :: t_7)
          else
            maps_DeleteFunc_map_delegate_way_delegate_delegation_delegate_way_delegate_delegation__Delegations_Drop_1_B2 (maps_DeleteFunc_map_delegate_way_delegate_delegation_delegate_way_delegate_delegation__Delegations_Drop_1_L1 n) m_0 del_1_c0 (e10.1 :: t_7)
def maps_DeleteFunc_map_delegate_way_delegate_delegation_delegate_way_delegate_delegation__Delegations_Drop_1 (m_0 : GMap delegate_way delegate_delegation) (c1_0 : Str) : Option (GMap delegate_way delegate_delegation) :=
  maps_DeleteFunc_map_delegate_way_delegate_delegation_delegate_way_delegate_delegation__Delegations_Drop_1_L1 fuel m_0 c1_0 ([] : List delegate_way)
def delegate_Delegations_Drop (d_0 : delegate_Delegations) (user_1 : Str) : Option (Int × delegate_Delegations) :=
  (delegate_Delegations_made d_0).bind fun y9 =>
    if !y9 then
      some (0, d_0)
    else
      (maps_DeleteFunc_map_delegate_way_delegate_delegation_delegate_way_delegate_delegation__Delegations_Drop_1 d_0.ways user_1).bind fun y17 =>
        some (IntKind.i64.wrap ((mlen d_0.ways) - (mlen y17)), (delegate_Delegations.mk y17))
def delegate_Delegations_made__nil : Option (Bool) :=
  some (false)
def delegate_Delegations_May__nil (from_1 : Str) (to_2 : Str) (scopes_3 : List Str) (now_4 : Int) : Option (Int) :=
  (delegate_Delegations_made__nil).bind fun y3 =>
    some (1)
def delegate_Delegations_Drop__nil (user_1 : Str) : Option (Int) :=
  (delegate_Delegations_made__nil).bind fun y6 =>
    some (0)
def law35_awake : Option (Bool) :=
  (delegate_New).bind fun y1 =>
    (delegate_Delegations_Allow y1 ([97, 110, 110]) ([97, 110, 110]) ([[109, 97, 105, 108]] : List Str) (api_Window.mk 5 20)).bind fun y23 =>
      (delegate_Delegations_Allow y23.2 ([97, 110, 110]) ([98, 111, 98]) ([[109, 97, 105, 108]] : List Str) (api_Window.mk 5 20)).bind fun y37 =>
        (delegate_Delegations_Allow y37.2 ([98, 111, 98]) ([99, 121, 100]) ([[109, 97, 105, 108, 46, 114, 101, 97, 100]] : List Str) (api_Window.mk 5 20)).bind fun y51 =>
          (delegate_Delegations_Allow y51.2 ([98, 111, 98]) ([99, 121, 100]) ([[109, 97, 105, 108, 46, 114, 101, 97, 100]] : List Str) (api_Window.mk 5 5)).bind fun y65 =>
            Option.bind (if (((y23.1 != 28) || (y37.1 != 0)) || (y51.1 != 0)) || (y65.1 != 2) then
                some true
              else
                (delegate_Delegations_May y65.2 ([97, 110, 110]) ([98, 111, 98]) ([[109, 97, 105, 108, 46, 120]] : List Str) 4).bind fun y116 =>
                  some (y116 != 14)
              ) fun z105 =>
              Option.bind (if z105 then
                  some true
                else
                  (delegate_Delegations_May y65.2 ([97, 110, 110]) ([98, 111, 98]) ([[109, 97, 105, 108, 46, 120]] : List Str) 5).bind fun y134 =>
                    some (y134 != 0)
                ) fun z123 =>
                Option.bind (if z123 then
                    some true
                  else
                    (delegate_Delegations_Chain y65.2 ([[97, 110, 110], [98, 111, 98], [99, 121, 100]] : List Str) ([[109, 97, 105, 108, 46, 114, 101, 97, 100]] : List Str) 6).bind fun y152 =>
                      some (y152 != 0)
                  ) fun z141 =>
                  Option.bind (if z141 then
                      some true
                    else
                      (delegate_Delegations_Chain y65.2 ([[97, 110, 110], [98, 111, 98], [99, 121, 100]] : List Str) ([[109, 97, 105, 108]] : List Str) 6).bind fun y170 =>
                        some (y170 != 19)
                    ) fun z159 =>
                    Option.bind (if z159 then
                        some true
                      else
                        chk (inc 0 1 ([[97, 110, 110], [98, 111, 98], [99, 121, 100]] : List Str).length) (
                          (delegate_Delegations_Chain y65.2 (cut ([[97, 110, 110], [98, 111, 98], [99, 121, 100]] : List Str) 0 1) ([] : List Str) 6).bind fun y187 =>
                            some (y187 != 0))
                      ) fun z177 =>
                      if z177 then
                        some (false)
                      else
                        (delegate_Delegations_Reach y65.2 ([99, 121, 100]) ([109, 97, 105, 108, 46, 114, 101, 97, 100]) 6).bind fun y193 =>
                          (delegate_Delegations_Scopes y65.2 ([97, 110, 110]) ([98, 111, 98]) 6).bind fun y200 =>
                            (ref03_Same y193 ([[97, 110, 110], [98, 111, 98]] : List Str)).bind fun y212 =>
                              Option.bind (if y212 then
                                  (ref03_Same y200 ([[109, 97, 105, 108]] : List Str)).bind fun y230 =>
                                    some y230
                                else
                                  some false
                                ) fun z219 =>
                                Option.bind (if z219 then
                                    (delegate_Delegations_Revoke y65.2 ([97, 110, 110]) ([98, 111, 98])).bind fun y243 =>
                                      some (y243.1, y243.2)
                                  else
                                    some (false, y65.2)
                                  ) fun z237 =>
                                  Option.bind (if z237.1 then
                                      (delegate_Delegations_May z237.2 ([97, 110, 110]) ([98, 111, 98]) ([] : List Str) 6).bind fun y263 =>
                                        some (y263 == 11)
                                    else
                                      some false
                                    ) fun z257 =>
                                    Option.bind (if z257 then
                                        (delegate_Delegations_Drop z237.2 ([99, 121, 100])).bind fun y276 =>
                                          some (y276.1 == 1, y276.2)
                                      else
                                        some (false, z237.2)
                                      ) fun z270 =>
                                      Option.bind (if z270.1 then
                                          (delegate_Delegations_May__nil ([97, 110, 110]) ([98, 111, 98]) ([] : List Str) 6).bind fun y296 =>
                                            some (y296 == 1)
                                        else
                                          some false
                                        ) fun z290 =>
                                        Option.bind (if z290 then
                                            (delegate_Delegations_Drop__nil ([97, 110, 110])).bind fun y309 =>
                                              some (y309 == 0)
                                          else
                                            some false
                                          ) fun z303 =>
                                          some (z303)
def law35_name (i_0 : Int) : Option (Str) :=
  chk (fitS ([117]) (bytesStr ([IntKind.u8.wrap (97 + (IntKind.u8.wrap (Int.tmod (IntKind.i64.wrap (i_0.tdiv 26)) 26))), IntKind.u8.wrap (97 + (IntKind.u8.wrap (Int.tmod i_0 26)))] : List Int))) (
    some (([117]) ++ (bytesStr ([IntKind.u8.wrap (97 + (IntKind.u8.wrap (Int.tmod (IntKind.i64.wrap (i_0.tdiv 26)) 26))), IntKind.u8.wrap (97 + (IntKind.u8.wrap (Int.tmod i_0 26)))] : List Int))))
def law35_DelegateLimits_B3 (r0 : Int → delegate_Delegations → Int → Int → Int → Option (Bool)) (n_0 : Int) (od_3 : delegate_Delegations) (w_4_0 : Int) (w_4_1 : Int) (i_5 : Int) (t_28 : Bool) : Option (Bool) :=
  if t_28 then
    some (false)
  else
    r0 n_0 od_3 w_4_0 w_4_1 (IntKind.i64.wrap (i_5 + 1))
def law35_DelegateLimits_B2 (r0 : Int → delegate_Delegations → Int → Int → Int → Option (Bool)) (n_0 : Int) (od_3 : delegate_Delegations) (w_4_0 : Int) (w_4_1 : Int) (i_5 : Int) (want_6 : Int) : Option (Bool) :=
  (law35_name i_5).bind fun y119 =>
    (delegate_Delegations_Allow od_3 ([97, 110, 110]) y119 ([[97]] : List Str) (api_Window.mk w_4_0 w_4_1)).bind fun y131 =>
      law35_DelegateLimits_B3 r0 n_0 y131.2 w_4_0 w_4_1 i_5 (y131.1 != want_6)
def law35_DelegateLimits_L1 : Nat → Int → delegate_Delegations → Int → Int → Int → Option (Bool)
  | 0, _, _, _, _, _ => none
  | n + 1, n_0, od_3, w_4_0, w_4_1, i_5 =>
    if decide (i_5 < n_0) then
      if decide (i_5 ≥ 256) then
        law35_DelegateLimits_B2 (law35_DelegateLimits_L1 n) n_0 od_3 w_4_0 w_4_1 i_5 3
      else
        law35_DelegateLimits_B2 (law35_DelegateLimits_L1 n) n_0 od_3 w_4_0 w_4_1 i_5 0
    else
      if n_0 == 0 then
        (delegate_Delegations_Drop od_3 ([97, 110, 110])).bind fun y189 =>
          Option.bind (if y189.1 == 0 then
              (law35_awake).bind fun y206 =>
                some y206
            else
              some false
            ) fun z200 =>
            some (z200)
      else
        (law35_name 0).bind fun y812 =>
          (delegate_Delegations_Allow od_3 ([97, 110, 110]) y812 ([[98]] : List Str) (api_Window.mk w_4_0 w_4_1)).bind fun y824 =>
            if y824.1 == 0 then
              (delegate_Delegations_Scopes y824.2 ([97, 110, 110]) y812 1).bind fun y863 =>
                (ref03_Same y863 ([[98]] : List Str)).bind fun y877 =>
                  if y877 then
                    (delegate_Delegations_Drop y824.2 ([97, 110, 110])).bind fun y884 =>
                      if y884.1 == (gmin n_0 256) then
                        (law35_awake).bind fun y895 =>
                          some (y895)
                      else
                        some (false)
                  else
                    some (false)
            else
              some (false)
def law35_DelegateLimits (n_0 : Int) : Option (Bool) :=
  (delegate_New).bind fun y1 =>
    law35_DelegateLimits_L1 fuel (gmax 0 (gmin n_0 300)) y1 0 9 0
end Go.KW.S
