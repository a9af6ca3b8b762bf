/- Own work: a part of the proofs of this seat. -/
import Derived.Test.YtmdbnoopcdpomaaGreatDoorKwP36
set_option linter.unusedVariables false
set_option linter.unusedSimpArgs false
namespace Go.KW.S
open Go Go.KW
/-! ### the reference's registry -/
def asc36 (L : List api_Client) : Prop := asc (L.map (·.ID))
def look36 (L : List api_Client) (id : Str) : Option api_Client := L.find? fun c => c.ID == id
theorem at_loop (L : List api_Client) (m : Bool) (hL : L.length ≤ 1000) (id : Str) : ∀ (r : List api_Client) (i n : Nat), L.drop i = r → r.length < n → (∀ c ∈ L.take i, (c.ID == id) = false) →
    (∃ (k : Nat) (c : api_Client), ref36_at_L1 n ⟨L, m⟩ id (i : Int) = some (k : Int) ∧ L[k]? = some c ∧ c.ID = id ∧ look36 L id = some c ∧ ∀ d ∈ L.take k, (d.ID == id) = false) ∨ (ref36_at_L1 n ⟨L, m⟩ id (i : Int) = some (-1) ∧ look36 L id = none) := by
  intro r
  induction r with
  | nil =>
    intro i n hd hn ht
    obtain ⟨n, rfl⟩ : ∃ k, n = k + 1 := ⟨n - 1, by simp at hn; omega⟩
    have := drop_nil hd
    rw [List.take_of_length_le (by omega)] at ht
    refine .inr ⟨by simp only [ref36_at_L1, show ¬ ((i : Int) < L.length) by omega, decide_false, Bool.false_eq_true, if_false], ?_⟩
    unfold look36
    rw [List.find?_eq_none]
    exact fun c hc => by simp [ht c hc]
  | cons x r ih =>
    intro i n hd hn ht
    obtain ⟨n, rfl⟩ : ∃ k, n = k + 1 := ⟨n - 1, by simp at hn; omega⟩
    obtain ⟨h1, h2, h3⟩ := drop_more hd
    have hlt := drop_lt hd
    simp only [ref36_at_L1, show ((i : Int) < L.length) by omega, decide_true, if_true, idx_n, h2, Option.bind_some, w64n (show i < 9223372036854775807 by omega)]
    cases hx : x.ID == id with
    | true =>
      refine .inl ⟨i, x, rfl, h2, by simpa using hx, ?_, ht⟩
      unfold look36
      have : L = L.take i ++ x :: r := by rw [← hd, List.take_append_drop]
      rw [this, List.find?_append, List.find?_eq_none.2 fun c hc => by simp [ht c hc]]
      simp [List.find?_cons, hx]
    | false =>
      simp only [Bool.false_eq_true, if_false]
      refine ih (i + 1) n h3 (by simp at hn; omega) fun c hc => ?_
      rw [take_more hd] at hc
      rcases List.mem_append.1 hc with hc | hc
      · exact ht c hc
      · simp at hc; subst hc; exact hx
theorem at_cases (L : List api_Client) (m : Bool) (hL : L.length ≤ 1000) (id : Str) :
    (∃ (k : Nat) (c : api_Client), ref36_at ⟨L, m⟩ id = some (k : Int) ∧ L[k]? = some c ∧ c.ID = id ∧ look36 L id = some c ∧ ∀ d ∈ L.take k, (d.ID == id) = false) ∨ (ref36_at ⟨L, m⟩ id = some (-1) ∧ look36 L id = none) :=
  at_loop L m hL id L 0 fuel rfl (by unfold fuel; omega) (by simp)
/-- the list without a client -/
def wo36 (L : List api_Client) (id : Str) : List api_Client := L.filter fun c => !(c.ID == id)
theorem asc_ne {L : List api_Client} (h : asc36 L) {k : Nat} {c : api_Client} (hk : L[k]? = some c) : ∀ d ∈ L.drop (k + 1), (d.ID == c.ID) = false := by
  intro d hd
  obtain ⟨j, hj, rfl⟩ := List.getElem_of_mem hd
  rw [List.getElem_drop]
  obtain ⟨hkl, rfl⟩ := List.getElem?_eq_some_iff.1 hk
  have hjl : k + 1 + j < L.length := by simp at hj; omega
  have := (List.pairwise_iff_getElem.1 h) k (k + 1 + j) (by simpa using hkl) (by simpa using hjl) (by omega)
  simp only [List.getElem_map] at this
  simp only [beq_eq_false_iff_ne]
  exact fun e => str_lt_irrefl _ (by rw [e] at this; exact this)
theorem wo_cut {L : List api_Client} (h : asc36 L) {k : Nat} {c : api_Client} (hk : L[k]? = some c) (ht : ∀ d ∈ L.take k, (d.ID == c.ID) = false) : L.take k ++ L.drop (k + 1) = wo36 L c.ID := by
  have hkl := (List.getElem?_eq_some_iff.1 hk).1
  have e : L = L.take k ++ c :: L.drop (k + 1) := by
    have := List.drop_eq_getElem_cons hkl
    rw [(List.getElem?_eq_some_iff.1 hk).2] at this
    rw [← this, List.take_append_drop]
  unfold wo36
  conv => rhs; rw [e]
  rw [List.filter_append, List.filter_cons, if_neg (by simp), List.filter_eq_self.2 fun d hd => by simp [ht d hd], List.filter_eq_self.2 fun d hd => by simp [asc_ne h hk d hd]]
theorem wo_none {L : List api_Client} {id : Str} (h : look36 L id = none) : wo36 L id = L := by
  unfold look36 at h
  rw [List.find?_eq_none] at h
  exact List.filter_eq_self.2 fun d hd => by simpa using h d hd
theorem rremove_eq {L : List api_Client} (h : asc36 L) (hL : L.length ≤ 1000) (id : Str) : ref36_Clients_Remove ⟨L, true⟩ id = some ((look36 L id).isSome, ⟨wo36 L id, true⟩) := by
  unfold ref36_Clients_Remove
  rcases at_cases L true hL id with ⟨k, c, h1, h2, h3, h4, h5⟩ | ⟨h1, h2⟩
  · have hkl := (List.getElem?_eq_some_iff.1 h2).1
    rw [h1, Option.bind_some, if_neg (by simp), chk_t (by rw [inc_0]; simp; omega), cut_0, chk_t (by simp [fitL]; omega), w64n (by omega), chk_t (by rw [inc_n]; simp; omega), cut_n, chk_t (by simp [fitL]; omega)]
    rw [h4]
    have e : (L.drop (k + 1)).take (L.length - (k + 1)) = L.drop (k + 1) := List.take_of_length_le (by simp)
    subst h3
    rw [e, List.nil_append, wo_cut h h2 h5]
    rfl
  · rw [h1, Option.bind_some, if_pos (by simp), h2, wo_none h2]; rfl
theorem asc_filter {L : List api_Client} (h : asc36 L) (p : api_Client → Bool) : asc36 (L.filter p) := by
  unfold asc36 asc at *
  rw [List.pairwise_map] at *
  exact h.sublist List.filter_sublist
theorem look_wo (L : List api_Client) (id x : Str) : look36 (wo36 L id) x = if x = id then none else look36 L x := by
  unfold look36 wo36
  rw [List.find?_filter]
  by_cases e : x = id
  · subst e
    rw [if_pos rfl, List.find?_eq_none]
    intro c hc; cases c.ID == x <;> simp
  · rw [if_neg e]
    congr 1
    funext c
    by_cases hc : c.ID = x
    · have : ¬ x = id := e
      simp [hc, this]
    · simp [hc]
/-- where it is put in -/
def insR (c : api_Client) : List api_Client → List api_Client
  | [] => [c]
  | d :: r => if sLt d.ID c.ID then d :: insR c r else c :: d :: r
theorem insR_split (c : api_Client) : ∀ (p r : List api_Client), (∀ d ∈ p, sLt d.ID c.ID = true) → (∀ d, r.head? = some d → sLt d.ID c.ID = false) → insR c (p ++ r) = p ++ c :: r
  | [], [], _, _ => rfl
  | [], d :: r, _, h => by simp only [List.nil_append, insR]; rw [h d rfl]; rfl
  | d :: p, r, h1, h2 => by
    simp only [List.cons_append, insR]
    rw [h1 d (by simp), if_pos rfl, insR_split c p r (fun e he => h1 e (by simp [he])) h2]
theorem rreg_loop (L : List api_Client) (hL : L.length ≤ 1000) (c : api_Client) (h1 : c.Redirects.length ≤ 1000) (h2 : c.Scopes.length ≤ 1000) : ∀ (r : List api_Client) (i n : Nat), L.drop i = r → i ≤ L.length → r.length < n → (∀ d ∈ L.take i, sLt d.ID c.ID = true) →
    ref36_Clients_Register_L1 n ⟨L, true⟩ c.ID c.Kind c.Tenant c.Secret.Salt c.Secret.Rounds c.Secret.Hash c.Redirects c.Scopes c.Logout (i : Int) = some (0, ⟨insR c L, true⟩) := by
  have fin : ∀ (i n : Nat), i ≤ L.length → (∀ d ∈ L.take i, sLt d.ID c.ID = true) → (∀ d, (L.drop i).head? = some d → sLt d.ID c.ID = false) →
      (chk (inc 0 (i : Int) L.length) (
          chk (fitL ([] : List api_Client).length (cut L 0 (i : Int)).length) (
            (ref36_copied (api_Client.mk c.ID c.Kind c.Tenant (api_Verifier.mk c.Secret.Salt c.Secret.Rounds c.Secret.Hash) c.Redirects c.Scopes c.Logout)).bind fun y80 =>
              chk (fitL (([] : List api_Client) ++ (cut L 0 (i : Int))).length ([y80] : List api_Client).length) (
                chk (inc (i : Int) L.length L.length) (
                  chk (fitL ((([] : List api_Client) ++ (cut L 0 (i : Int))) ++ ([y80] : List api_Client)).length (cut L (i : Int) L.length).length) (
                    some ((0 : Int), (ref36_Clients.mk (((([] : List api_Client) ++ (cut L 0 (i : Int))) ++ ([y80] : List api_Client)) ++ (cut L (i : Int) L.length)) true)))))))) = some (0, ⟨insR c L, true⟩) := by
    intro i n hi ht hd
    have hc : (api_Client.mk c.ID c.Kind c.Tenant (api_Verifier.mk c.Secret.Salt c.Secret.Rounds c.Secret.Hash) c.Redirects c.Scopes c.Logout) = c := rfl
    rw [hc, chk_t (by rw [inc_0]; simp; omega), cut_0, chk_t (by simp [fitL]; omega), ref36_copied_eq c h1 h2, Option.bind_some, chk_t (by simp [fitL]; omega), chk_t (by rw [inc_n]; simp; omega), cut_n, chk_t (by simp [fitL]; omega)]
    have e : (L.drop i).take (L.length - i) = L.drop i := List.take_of_length_le (by simp)
    rw [e]
    congr 3
    have := insR_split c (L.take i) (L.drop i) ht hd
    rw [List.take_append_drop] at this
    rw [this]; simp
  intro r
  induction r with
  | nil =>
    intro i n hd hi hn ht
    obtain ⟨n, rfl⟩ : ∃ k, n = k + 1 := ⟨n - 1, by simp at hn; omega⟩
    have := drop_nil hd
    simp only [ref36_Clients_Register_L1, show ¬ ((i : Int) < L.length) by omega, decide_false, Bool.false_eq_true, if_false, Option.bind_some]
    exact fin i n hi ht (fun d h => by rw [hd] at h; cases h)
  | cons x r ih =>
    intro i n hd hi hn ht
    obtain ⟨n, rfl⟩ : ∃ k, n = k + 1 := ⟨n - 1, by simp at hn; omega⟩
    obtain ⟨g1, g2, g3⟩ := drop_more hd
    have hlt := drop_lt hd
    simp only [ref36_Clients_Register_L1, show ((i : Int) < L.length) by omega, decide_true, if_true, idx_n, g2, Option.bind_some, w64n (show i < 9223372036854775807 by omega)]
    cases hx : sLt x.ID c.ID with
    | true =>
      simp only [if_true]
      refine ih (i + 1) n g3 (by omega) (by simp at hn; omega) fun d hdd => ?_
      rw [take_more hd] at hdd
      rcases List.mem_append.1 hdd with hdd | hdd
      · exact ht d hdd
      · simp at hdd; subst hdd; exact hx
    | false =>
      simp only [Bool.false_eq_true, if_false]
      exact fin i n hi ht (fun d h => by rw [hd] at h; simp at h; subst h; exact hx)
theorem insR_perm (c : api_Client) : ∀ L : List api_Client, (insR c L).Perm (c :: L)
  | [] => .refl _
  | d :: r => by
    unfold insR
    split
    · exact ((insR_perm c r).cons d).trans (.swap c d r)
    · exact .refl _
theorem insR_asc (c : api_Client) : ∀ {L : List api_Client}, asc36 L → (∀ d ∈ L, d.ID ≠ c.ID) → asc36 (insR c L)
  | [], _, _ => by simp [insR, asc36, asc]
  | d :: r, h, hne => by
    unfold asc36 asc at h ⊢
    rw [List.map_cons, List.pairwise_cons] at h
    unfold insR
    rw [sLt_eq]
    by_cases hd : d.ID < c.ID
    · rw [if_pos (decide_eq_true hd), List.map_cons, List.pairwise_cons]
      refine ⟨fun x hx => ?_, insR_asc c (L := r) h.2 fun e he => hne e (by simp [he])⟩
      obtain ⟨e, he, rfl⟩ := List.mem_map.1 hx
      rcases List.mem_cons.1 ((insR_perm c r).mem_iff.1 he) with rfl | he
      · exact hd
      · exact h.1 _ (List.mem_map.2 ⟨e, he, rfl⟩)
    · rw [if_neg (by simpa using hd), List.map_cons, List.map_cons, List.pairwise_cons, List.pairwise_cons]
      have hcd : c.ID < d.ID := str_lt_of (str_not_lt.1 hd) (fun e => hne d (by simp) e.symm)
      refine ⟨fun x hx => ?_, h.1, h.2⟩
      rcases List.mem_cons.1 hx with rfl | hx
      · exact hcd
      · exact str_lt_trans hcd (h.1 x hx)
theorem look_ins (c : api_Client) (x : Str) : ∀ L : List api_Client, (∀ d ∈ L, d.ID ≠ c.ID) → look36 (insR c L) x = if x = c.ID then some c else look36 L x
  | [], _ => by
    unfold look36 insR
    by_cases e : x = c.ID
    · simp [e]
    · have : (c.ID == x) = false := by simpa using fun h => e (Eq.symm h)
      simp [e, this]
  | d :: r, hne => by
    have ih := look_ins c x r fun e he => hne e (by simp [he])
    unfold look36 at ih ⊢
    unfold insR
    split
    · rw [List.find?_cons, List.find?_cons, ih]
      by_cases e : x = c.ID
      · have : (d.ID == x) = false := by simpa [e] using hne d (by simp)
        rw [this, if_pos e]
      · rw [if_neg e, if_neg e]
    · rw [List.find?_cons]
      by_cases e : x = c.ID
      · simp [e]
      · have : (c.ID == x) = false := by simpa using fun h => e (Eq.symm h)
        rw [this, if_neg e]
/-- both registries hold the same -/
structure Rel (l : CL) (L : List api_Client) : Prop where
  asc : asc36 L
  len : L.length = l.length
  look : ∀ id, look36 L id = mfind id l
theorem rel_nil : Rel [] [] := ⟨List.Pairwise.nil, rfl, fun _ => rfl⟩
theorem len_wo {L : List api_Client} (h : asc36 L) (hL : L.length ≤ 1000) (id : Str) : L.length = (wo36 L id).length + if (look36 L id).isSome then 1 else 0 := by
  rcases at_cases L true hL id with ⟨k, c, h1, h2, h3, h4, h5⟩ | ⟨h1, h2⟩
  · have hkl := (List.getElem?_eq_some_iff.1 h2).1
    subst h3
    rw [← wo_cut h h2 h5, h4]
    simp; omega
  · rw [wo_none h2, h2]; rfl
theorem rel_del {l : CL} {L : List api_Client} {N : Nat} (hi : CInv l N) (hN : N ≤ 300) (h : Rel l L) (id : Str) : Rel (mdelL id l) (wo36 L id) := by
  have hl := hi.len
  refine ⟨asc_filter h.asc _, ?_, fun x => ?_⟩
  · have h1 := len_wo h.asc (by rw [h.len]; omega) id
    have h2 := len_del (k := id) hi.nd
    rw [h.look] at h1
    have := h.len
    omega
  · rw [look_wo, mfind_del hi.nd, h.look]
theorem wo_ne (L : List api_Client) (id : Str) : ∀ d ∈ wo36 L id, d.ID ≠ id := fun d hd => by
  have := (List.mem_filter.1 hd).2
  simpa using this
theorem rregister_eq {l : CL} {L : List api_Client} {N : Nat} (hi : CInv l N) (hN : N < 256) (h : Rel l L) (c : api_Client) (hc : smallC c) :
    ∃ L', ref36_Clients_Register ⟨L, true⟩ c = some (ckC c, ⟨L', true⟩) ∧ Rel (regL l c) L' := by
  have hl := hi.len
  have hL : L.length ≤ 1000 := by rw [h.len]; omega
  have hF : 1000 < fuel := by unfold fuel; omega
  unfold ref36_Clients_Register regL
  generalize fuel = F at hF ⊢
  simp only [Bool.not_true, Bool.false_eq_true, if_false, ref36_Check_eq c hc.fits, Option.bind_some]
  by_cases hk : ckC c = 0
  · rw [hk, if_pos rfl]
    have h256 : ¬ ((L.length : Int) ≥ 256) := by rw [h.len]; omega
    have hz : ∀ y : Int, (decide (y < 0) && decide ((L.length : Int) ≥ 256)) = false := fun y => by
      rw [show decide ((L.length : Int) ≥ 256) = false by rw [decide_eq_false_iff_not]; exact h256, Bool.and_false]
    have hat : ∃ y, ref36_at ⟨L, true⟩ c.ID = some y := by
      rcases at_cases L true hL c.ID with ⟨k, _, h1, _⟩ | ⟨h1, _⟩ <;> exact ⟨_, h1⟩
    obtain ⟨y, hy⟩ := hat
    have hwl : (wo36 L c.ID).length ≤ L.length := List.length_filter_le _ _
    refine ⟨insR c (wo36 L c.ID), ?_, ?_⟩
    · rw [if_neg (by simp), hy, Option.bind_some, hz, if_neg (by simp), rremove_eq h.asc hL, Option.bind_some]
      have h1 := hc.reds.1
      have h2 := hc.scs.1
      have := rreg_loop (wo36 L c.ID) (by omega) c (by omega) (by omega) (wo36 L c.ID) 0 F rfl (by omega) (by omega) (by simp)
      rw [show ((0 : Nat) : Int) = 0 from rfl] at this
      exact this
    · refine ⟨insR_asc c (asc_filter h.asc _) (wo_ne L c.ID), ?_, fun x => ?_⟩
      · rw [(insR_perm c _).length_eq, List.length_cons, len_put]
        have h1 := len_wo h.asc hL c.ID
        rw [h.look] at h1
        have := h.len
        split at h1 <;> rename_i hs
        · rw [if_pos hs]; omega
        · rw [if_neg hs]; omega
      · rw [look_ins c x _ (wo_ne L c.ID), look_wo, mfind_put, h.look]
        by_cases e : x = c.ID <;> simp [e]
  · rw [if_pos (by simpa using hk), if_neg hk]
    exact ⟨L, rfl, h⟩
theorem look_id {L : List api_Client} {id : Str} {c : api_Client} (h : look36 L id = some c) : c.ID = id := by
  have := List.find?_some h
  simpa using this
theorem rlook {l : CL} {L : List api_Client} {N : Nat} (hi : CInv l N) (hN : N ≤ 300) (h : Rel l L) (id : Str) :
    (∃ (k : Nat) (c : api_Client), ref36_at ⟨L, true⟩ id = some (k : Int) ∧ L[k]? = some c ∧ mfind id l = some c) ∨ (ref36_at ⟨L, true⟩ id = some (-1) ∧ mfind id l = none) := by
  have hl := hi.len
  rcases at_cases L true (by rw [h.len]; omega) id with ⟨k, c, h1, h2, h3, h4, h5⟩ | ⟨h1, h2⟩
  · exact .inl ⟨k, c, h1, h2, by rw [← h.look, h4]⟩
  · exact .inr ⟨h1, by rw [← h.look, h2]⟩
theorem rget_eq {l : CL} {L : List api_Client} {N : Nat} (hi : CInv l N) (hN : N ≤ 300) (h : Rel l L) (id : Str) : ref36_Clients_Get ⟨L, true⟩ id = some (getR l id) := by
  unfold ref36_Clients_Get getR
  rcases rlook hi hN h id with ⟨k, c, h1, h2, h3⟩ | ⟨h1, h2⟩
  · have hc := (hi.at h3).2.2
    have g1 := hc.reds.1
    have g2 := hc.scs.1
    rw [h1, Option.bind_some, if_pos (by simp), idx_n, h2, Option.bind_some, ref36_copied_eq c (by omega) (by omega), h3]; rfl
  · rw [h1, Option.bind_some, if_neg (by decide), h2]; rfl
theorem rred_eq {l : CL} {L : List api_Client} {N : Nat} (hi : CInv l N) (hN : N ≤ 300) (h : Rel l L) (id a : Str) : ref36_Clients_Redirect ⟨L, true⟩ id a = some (redR l id a) := by
  unfold ref36_Clients_Redirect redR
  rcases rlook hi hN h id with ⟨k, c, h1, h2, h3⟩ | ⟨h1, h2⟩
  · have hc := (hi.at h3).2.2
    rw [h1, Option.bind_some, if_neg (by simp), idx_n, h2, Option.bind_some, ref36_contains_eq _ _ hc.reds.f, Option.bind_some, h3]
    simp only
    cases c.Redirects.contains a <;> rfl
  · rw [h1, Option.bind_some, if_pos (by decide), h2]; rfl
theorem ckC_kind {c : api_Client} (h : ckC c = 0) : c.Kind = 1 ∨ c.Kind = 2 := by
  unfold ckC at h
  split at h
  · cases h
  · split at h
    · cases h
    · rename_i h1
      simp only [Bool.and_eq_true, bne_iff_ne, ne_eq, not_and, Classical.not_not] at h1
      by_cases e : c.Kind = 1
      · exact .inl e
      · exact .inr (h1 e)
theorem raut_eq {l : CL} {L : List api_Client} {N : Nat} (hi : CInv l N) (hN : N ≤ 300) (h : Rel l L) (id s : Str) (hs : fits s) : ref36_Clients_Authenticate ⟨L, true⟩ id s = some (autR l id s) := by
  unfold ref36_Clients_Authenticate autR
  rcases rlook hi hN h id with ⟨k, c, h1, h2, h3⟩ | ⟨h1, h2⟩
  · obtain ⟨_, hk, hc⟩ := hi.at h3
    rw [h1, Option.bind_some, if_neg (by simp), idx_n, h2, Option.bind_some, ref22_Check_eq _ _ hc.fits.salt hs, h3]
    simp only [Option.bind_some]
    unfold accS
    rcases ckC_kind hk with e | e
    · simp only [e]; cases (s == []) <;> rfl
    · simp only [e]; cases chkS c.Secret s <;> rfl
  · rw [h1, Option.bind_some, if_pos (by decide), h2]; rfl
theorem ralw_eq {l : CL} {L : List api_Client} {N : Nat} (hi : CInv l N) (hN : N ≤ 300) (h : Rel l L) (id : Str) (sc : List Str) (hs : sm sc) : ref36_Clients_Allowed ⟨L, true⟩ id sc = some (alwR l id sc) := by
  unfold ref36_Clients_Allowed alwR
  rcases rlook hi hN h id with ⟨k, c, h1, h2, h3⟩ | ⟨h1, h2⟩
  · have hc := (hi.at h3).2.2
    rw [h1, Option.bind_some, if_neg (by simp), idx_n, h2, Option.bind_some, ref29_Within_eq _ _ hs hc.scs.sm, Option.bind_some, h3]
    simp only
    cases within sc c.Scopes <;> rfl
  · rw [h1, Option.bind_some, if_pos (by decide), h2]; rfl
theorem rlist_loop (L : List api_Client) (hL : L.length ≤ 1000) : ∀ (r : List api_Client) (i n : Nat) (out : List Str), L.drop i = r → r.length < n → out = (L.take i).map (·.ID) → ref36_Clients_List_L1 n ⟨L, true⟩ out (i : Int) = some (L.map (·.ID)) := by
  intro r
  induction r with
  | nil =>
    intro i n out hd hn ho
    obtain ⟨n, rfl⟩ : ∃ k, n = k + 1 := ⟨n - 1, by simp at hn; omega⟩
    have := drop_nil hd
    rw [List.take_of_length_le (by omega)] at ho
    simp only [ref36_Clients_List_L1, show ¬ ((i : Int) < L.length) by omega, decide_false, Bool.false_eq_true, if_false, ho]
  | cons x r ih =>
    intro i n out hd hn ho
    obtain ⟨n, rfl⟩ : ∃ k, n = k + 1 := ⟨n - 1, by simp at hn; omega⟩
    obtain ⟨g1, g2, g3⟩ := drop_more hd
    have hlt := drop_lt hd
    simp only [ref36_Clients_List_L1, show ((i : Int) < L.length) by omega, decide_true, if_true, idx_n, g2, Option.bind_some, w64n (show i < 9223372036854775807 by omega)]
    rw [chk_t (by simp [fitL, ho]; omega)]
    refine ih (i + 1) n _ g3 (by simp at hn; omega) ?_
    rw [take_more hd, ho, List.map_append]; rfl
theorem rlist_eq {l : CL} {L : List api_Client} {N : Nat} (hi : CInv l N) (hN : N ≤ 300) (h : Rel l L) : ref36_Clients_List ⟨L, true⟩ = some (sortS (l.map Prod.fst)) := by
  have hl := hi.len
  have e : L.map (·.ID) = sortS (l.map Prod.fst) := by
    refine asc_unique h.asc (sortS_asc hi.nd) fun x => ?_
    rw [← show (sortS (l.map Prod.fst)).contains x = true ↔ _ from List.contains_iff_mem, mem_keys hi, ← h.look, Option.isSome_iff_exists, List.mem_map]
    constructor
    · rintro ⟨c, hc, rfl⟩
      unfold look36
      cases hf : L.find? fun d => d.ID == c.ID with
      | some d => exact ⟨d, rfl⟩
      | none => rw [List.find?_eq_none] at hf; exact absurd (hf c hc) (by simp)
    · rintro ⟨c, hc⟩
      exact ⟨c, List.mem_of_find?_eq_some hc, look_id hc⟩
  rw [← e]
  exact rlist_loop L (by rw [h.len]; omega) L 0 fuel [] rfl (by unfold fuel; rw [h.len]; omega) rfl
theorem plays_loop (ops : List law36_Op) (hf : ops.length ≤ 12) (ho : ∀ o ∈ ops, smallO o) : ∀ (r : List law36_Op) (i n N : Nat) (l : CL) (L : List api_Client), ops.drop i = r → r.length < n → CInv l N → N + r.length < 100 → Rel l L →
    law36_ClientPlays_L1 n ops ⟨some l⟩ ⟨L, true⟩ (i : Int) = some true := by
  intro r
  induction r with
  | nil =>
    intro i n N l L hd hn hi hN hr
    obtain ⟨n, rfl⟩ : ∃ k, n = k + 1 := ⟨n - 1, by simp at hn; omega⟩
    have := drop_nil hd
    simp only [law36_ClientPlays_L1, show ¬ ((i : Int) < ops.length) by omega, decide_false, Bool.false_eq_true, if_false, alive36, Option.bind_some]
  | cons o r ih =>
    intro i n N l L hd hn hi hN hr
    obtain ⟨n, rfl⟩ : ∃ k, n = k + 1 := ⟨n - 1, by simp at hn; omega⟩
    obtain ⟨h1, h2, h3⟩ := drop_more hd
    have hlt := drop_lt hd
    have hoo := ho o (List.mem_of_getElem? h2)
    simp only [List.length_cons] at hn hN
    have hS : fits o.S := by have := hoo.s; unfold fits; omega
    have hl := hi.len
    obtain ⟨f1, f2⟩ := getR_small hi o.ID
    obtain ⟨L', r1, r2⟩ := rregister_eq hi (by omega) hr o.Client hoo.client
    have nx : ∀ (l' : CL) (L' : List api_Client), CInv l' (N + 1) → Rel l' L' → law36_ClientPlays_B2 (law36_ClientPlays_L1 n) ops ⟨some l'⟩ ⟨L', true⟩ (i : Int) true = some true := by
      intro l' L' hi' hr'
      unfold law36_ClientPlays_B2
      rw [if_neg (by simp), w64n (show i < 9223372036854775807 by omega)]
      exact ih (i + 1) n (N + 1) l' L' h3 (by omega) hi' (by omega) hr'
    have hi1 := hi.mono (show N ≤ N + 1 by omega)
    have hlen : fits (sortS (l.map Prod.fst)) := by unfold fits; rw [(sortS_perm _).length_eq, List.length_map]; omega
    simp only [law36_ClientPlays_L1, show ((i : Int) < ops.length) by omega, decide_true, if_true, idx_n, h2, Option.bind_some, register_eq hi (show N < 256 by omega) _ hoo.client, r1, get_eq hi, rget_eq hi (show N ≤ 300 by omega) hr, redirect_eq hi, rred_eq hi (show N ≤ 300 by omega) hr,
      auth_eq hi _ _ hS, raut_eq hi (show N ≤ 300 by omega) hr _ _ hS, allowed_eq hi _ _ hoo.scs.sm, ralw_eq hi (show N ≤ 300 by omega) hr _ _ hoo.scs.sm, remove_eq, rremove_eq hr.asc (show L.length ≤ 1000 by rw [hr.len]; omega), hr.look, list_eq hi (show N ≤ 300 by omega), rlist_eq hi (show N ≤ 300 by omega) hr,
      beq_self_eq_true, same_self _ f1 f2, lists_same _ hlen]
    split
    · exact nx _ _ (cinv_reg hi _ hoo.client) r2
    · split
      · exact nx _ _ hi1 hr
      · split
        · exact nx _ _ hi1 hr
        · split
          · exact nx _ _ hi1 hr
          · split
            · exact nx _ _ hi1 hr
            · split
              · exact nx _ _ (cinv_del hi1 _) (rel_del hi (by omega) hr _)
              · exact nx _ _ hi1 hr
theorem plays_true (ops : List law36_Op) (hf : fits ops) (ho : ∀ o ∈ ops, opF o) : law36_ClientPlays ops = some true := by
  unfold law36_ClientPlays
  rw [alive36]
  rcases few_gate ops hf ho with h | ⟨h, hm, hoo⟩
  · rw [h]; rfl
  rw [h, Option.bind_some, if_neg (by simp)]
  show (some (client_Clients.mk (some []))).bind _ = _
  rw [Option.bind_some]
  show (some (ref36_Clients.mk [] true)).bind _ = _
  rw [Option.bind_some]
  exact plays_loop ops hm hoo ops 0 fuel 0 [] [] rfl (fuel_pos hf) cinv_nil (by omega) rel_nil
end Go.KW.S
