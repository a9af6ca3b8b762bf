/- Maps whose values are pointers to structs that only this map holds. -/
import Derived.Test.YtkhodjenbganfaaGreatDoorKwMapR
set_option linter.unusedSectionVars false
set_option linter.unusedVariables false
set_option linter.unusedSimpArgs false
namespace Go.KW
open Go Go.RowKit
def pval (p : Option Nat) : Value := .pointer (p.map fun b => ⟨b, 0, none⟩)
def ptrC : Cdc (Option Nat) := Cdc.flat 1 (fun p => [pval p]) (fun _ => rfl) (fun _ u h => by simp at h; subst h; rfl)
structure ObjK {R : Type} (N : Nat) (O : (Nat → Nat) → Tags → World → Nat → R → Prop) : Prop where
 mv : ∀ {τ τ' : Nat → Nat} {ρ ρ' : Tags} {w w' : World} {g : Nat} {x : R}, O τ ρ w g x → (∀ p, p < N → Mv ρ w (τ p) ρ' w' (τ' p)) → (∀ p, p < N → τ' p ≠ 0) → O τ' ρ' w' g x
structure Fine (ρ : Tags) (j : Nat) (σ : Tags) : Prop where
 zero : ∀ b, σ b = 0 ↔ ρ b = 0
 two : ∀ b, 2 ≤ σ b → ρ b = j
abbrev ent (K R : Type) := K × R × Nat × Nat
section
variable {K R : Type} [DecidableEq K] {N : Nat} {O : (Nat → Nat) → Tags → World → Nat → R → Prop} {ρ ρ' σ σ' : Tags} {j j' jj t : Nat} {w w' : World} {k : K} {x : R} {b : Nat}
structure RecsL (O : (Nat → Nat) → Tags → World → Nat → R → Prop) (N : Nat) (H : K → Prop) (ρ : Tags) (j : Nat) (w : World) (q : List (ent K R)) (σ : Tags) : Prop where
 fine : Fine ρ j σ
 keys : (q.map (·.1)).Nodup
 tags : (q.map (·.2.2.2)).Nodup
 obj : ∀ e ∈ q, ¬ H e.1 → O (fun p => 2 + N * e.2.2.2 + p) σ w e.2.2.1 e.2.1
def lpOf (q : List (ent K R)) : List (K × Option Nat) := q.map fun e => (e.1, some e.2.2.1)
def mOf (q : List (ent K R)) : List (K × R) := q.map fun e => (e.1, e.2.1)
def RecsX (O : (Nat → Nat) → Tags → World → Nat → R → Prop) (N : Nat) (H : K → Prop) (ρ : Tags) (j : Nat) (w : World) (lp : GMap K (Option Nat)) (m : GMap K R) : Prop :=
 (lp = none ∧ m = none) ∨ ∃ q σ, lp = some (lpOf q) ∧ m = some (mOf q) ∧ RecsL O N H ρ j w q σ
def Recs (O : (Nat → Nat) → Tags → World → Nat → R → Prop) (N : Nat) (ρ : Tags) (j : Nat) (w : World) (lp : GMap K (Option Nat)) (m : GMap K R) : Prop := RecsX O N (fun _ => False) ρ j w lp m
def RecsH (O : (Nat → Nat) → Tags → World → Nat → R → Prop) (N : Nat) (k : K) (ρ : Tags) (j : Nat) (w : World) (lp : GMap K (Option Nat)) (m : GMap K R) : Prop := RecsX O N (fun y => y = k) ρ j w lp m
theorem tag_ne {N t t' p p' : Nat} (h : t ≠ t') (hp : p < N) (hp' : p' < N) : 2 + N * t + p ≠ 2 + N * t' + p' := by
 intro e
 have e' : N * t + p = N * t' + p' := by omega
 rcases Nat.lt_or_gt_of_ne h with h | h
 ·have := Nat.mul_le_mul_left N (show t + 1 ≤ t' from h)
  rw [Nat.mul_add] at this; omega
 ·have := Nat.mul_le_mul_left N (show t' + 1 ≤ t from h)
  rw [Nat.mul_add] at this; omega
variable {H : K → Prop} {lp : GMap K (Option Nat)} {m : GMap K R} {q : List (ent K R)}
theorem fine_min (ρ : Tags) (j : Nat) : Fine ρ j (fun b => min (ρ b) 1) := ⟨fun b => by omega, fun b h => by omega⟩
theorem Recs.nil : Recs O N ρ j w (none : GMap K (Option Nat)) (none : GMap K R) := .inl ⟨rfl, rfl⟩
theorem Recs.new : Recs O N ρ j w (some [] : GMap K (Option Nat)) (some [] : GMap K R) := .inr ⟨[], fun b => min (ρ b) 1, rfl, rfl, fine_min ρ j, List.nodup_nil, List.nodup_nil, fun _ h => by cases h⟩
def fineTo (ρ : Tags) (j : Nat) (w : World) (σ ρ' : Tags) (j' : Nat) : Tags := fun b => if ρ' b = 0 then 0 else if b < w.heap.size ∧ ρ b = j ∧ ρ' b = j' then σ b else 1
theorem fineTo_fine (h : Fine ρ j σ) (mv : Mv ρ w j ρ' w' j') : Fine ρ' j' (fineTo ρ j w σ ρ' j') := by
 refine ⟨fun b => ?_, fun b hb => ?_⟩
 ·unfold fineTo
  by_cases h0 : ρ' b = 0
  ·rw [if_pos h0]; simp [h0]
  ·rw [if_neg h0]
   refine ⟨fun e => ?_, fun e => absurd e h0⟩
   by_cases h1 : b < w.heap.size ∧ ρ b = j ∧ ρ' b = j'
   ·rw [if_pos h1] at e
    exact absurd (mv.rd b h1.1 ((h.zero b).1 e)).2 h0
   ·rw [if_neg h1] at e; cases e
 ·unfold fineTo at hb
  by_cases h0 : ρ' b = 0
  ·rw [if_pos h0] at hb; omega
  ·rw [if_neg h0] at hb
   by_cases h1 : b < w.heap.size ∧ ρ b = j ∧ ρ' b = j'
   ·exact h1.2.2
   ·rw [if_neg h1] at hb; omega
theorem fineTo_mv (h : Fine ρ j σ) (hj : j' ≠ 0) (mv : Mv ρ w j ρ' w' j') (ht : 2 ≤ t) : Mv σ w t (fineTo ρ j w σ ρ' j') w' t := by
 refine ⟨fun b hb h0 => ?_, fun b hb h0 => ?_, mv.size⟩
 ·obtain ⟨h1, h2⟩ := mv.rd b hb ((h.zero b).1 h0)
  exact ⟨h1, by unfold fineTo; rw [if_pos h2]⟩
 ·have hr := h.two b (by omega)
  obtain ⟨h1, h2⟩ := mv.own b hb hr
  refine ⟨h1, ?_⟩
  unfold fineTo
  rw [if_neg (by rw [h2]; exact hj), if_pos ⟨hb, hr, h2⟩]; exact h0
theorem RecsX.mv (h : RecsX O N H ρ j w lp m) (ok : ObjK N O) (mv : Mv ρ w j ρ' w' j') (h1 : j' ≠ 0) : RecsX O N H ρ' j' w' lp m := by
 rcases h with h | ⟨q, σ, e1, e2, hq⟩
 ·exact .inl h
 ·exact .inr ⟨q, fineTo ρ j w σ ρ' j', e1, e2, fineTo_fine hq.fine mv, hq.keys, hq.tags, fun e he hn => ok.mv (hq.obj e he hn) (fun p hp => fineTo_mv hq.fine h1 mv (by omega)) (fun p hp => by omega)⟩
theorem Recs.mv (h : Recs O N ρ j w lp m) (ok : ObjK N O) (mv : Mv ρ w j ρ' w' j') (h1 : j' ≠ 0) : Recs O N ρ' j' w' lp m := RecsX.mv h ok mv h1
theorem RecsH.mv (h : RecsH O N k ρ j w lp m) (ok : ObjK N O) (mv : Mv ρ w j ρ' w' j') (h1 : j' ≠ 0) : RecsH O N k ρ' j' w' lp m := RecsX.mv h ok mv h1

theorem ent_find (hk : (q.map (·.1)).Nodup) (k : K) : (mfind k (lpOf q) = none ∧ mfind k (mOf q) = none ∧ ∀ e ∈ q, e.1 ≠ k) ∨ ∃ e ∈ q, e.1 = k ∧ mfind k (lpOf q) = some (some e.2.2.1) ∧ mfind k (mOf q) = some e.2.1 := by
 induction q with
 | nil => exact .inl ⟨rfl, rfl, fun _ h => by cases h⟩
 | cons e q ih =>
  rw [List.map_cons, List.nodup_cons] at hk
  simp only [lpOf, mOf, List.map_cons, mfind]
  by_cases hke : k = e.1
  ·exact .inr ⟨e, by simp, hke.symm, by rw [if_pos hke], by rw [if_pos hke]⟩
  ·rw [if_neg hke, if_neg hke]
   rcases ih hk.2 with ⟨h1, h2, h3⟩ | ⟨e', h1, h2, h3, h4⟩
   ·exact .inl ⟨h1, h2, fun e' he' => by rcases List.mem_cons.1 he' with rfl | he'; exact fun h => hke h.symm; exact h3 e' he'⟩
   ·exact .inr ⟨e', by simp [h1], h2, h3, h4⟩
theorem RecsX.look (h : RecsX O N H ρ j w lp m) (k : K) : (mgetD lp k none = none ∧ (m.bind fun l => mfind k l) = none ∧ mfind k (m.getD []) = none) ∨ ∃ b x, mgetD lp k none = some b ∧ mfind k (lp.getD []) = some (some b) ∧ mfind k (m.getD []) = some x := by
 rcases h with ⟨rfl, rfl⟩ | ⟨q, σ, rfl, rfl, hq⟩
 ·exact .inl ⟨rfl, rfl, rfl⟩
 ·rcases ent_find hq.keys k with ⟨h1, h2, _⟩ | ⟨e, _, _, h1, h2⟩
  ·exact .inl ⟨by simp [mgetD, h1], h2, h2⟩
  ·exact .inr ⟨e.2.2.1, e.2.1, by simp [mgetD, h1], h1, h2⟩
theorem RecsX.len (h : RecsX O N H ρ j w lp m) : mlen lp = mlen m := by
 rcases h with ⟨rfl, rfl⟩ | ⟨q, σ, rfl, rfl, hq⟩
 ·rfl
 ·simp [mlen, lpOf, mOf]
theorem RecsX.isNone (h : RecsX O N H ρ j w lp m) : lp.isNone = m.isNone := by
 rcases h with ⟨rfl, rfl⟩ | ⟨q, σ, rfl, rfl, hq⟩ <;> rfl
theorem RecsX.isSome (h : RecsX O N H ρ j w lp m) : lp.isSome = m.isSome := by
 rcases h with ⟨rfl, rfl⟩ | ⟨q, σ, rfl, rfl, hq⟩ <;> rfl
theorem RecsX.has (h : RecsX O N H ρ j w lp m) (k : K) : mhas lp k = mhas m k := by
 rcases h with ⟨rfl, rfl⟩ | ⟨q, σ, rfl, rfl, hq⟩
 ·rfl
 ·unfold mhas
  rcases ent_find hq.keys k with ⟨h1, h2, _⟩ | ⟨e, _, _, h1, h2⟩ <;> simp [h1, h2]
theorem uniq_key (hk : (q.map (·.1)).Nodup) : ∀ {e e' : ent K R}, e ∈ q → e' ∈ q → e.1 = e'.1 → e = e' := by
 induction q with
 | nil => intro e e' h; cases h
 | cons a q ih =>
  rw [List.map_cons, List.nodup_cons] at hk
  intro e e' h h' he
  rcases List.mem_cons.1 h with h1 | h1 <;> rcases List.mem_cons.1 h' with h2 | h2
  ·rw [h1, h2]
  ·exact (hk.1 (List.mem_map.2 ⟨e', h2, by rw [← he, h1]⟩)).elim
  ·exact (hk.1 (List.mem_map.2 ⟨e, h1, by rw [he, h2]⟩)).elim
  ·exact ih hk.2 h1 h2 he
theorem uniq_tag (hk : (q.map (·.2.2.2)).Nodup) : ∀ {e e' : ent K R}, e ∈ q → e' ∈ q → e.2.2.2 = e'.2.2.2 → e = e' := by
 induction q with
 | nil => intro e e' h; cases h
 | cons a q ih =>
  rw [List.map_cons, List.nodup_cons] at hk
  intro e e' h h' he
  rcases List.mem_cons.1 h with h1 | h1 <;> rcases List.mem_cons.1 h' with h2 | h2
  ·rw [h1, h2]
  ·exact (hk.1 (List.mem_map.2 ⟨e', h2, by rw [← he, h1]⟩)).elim
  ·exact (hk.1 (List.mem_map.2 ⟨e, h1, by rw [he, h2]⟩)).elim
  ·exact ih hk.2 h1 h2 he
theorem Recs.peek (h : Recs O N ρ j w lp m) (ok : ObjK N O) (hj : j ≠ 0) (hb : mfind k (lp.getD []) = some (some b)) : ∃ x, mfind k (m.getD []) = some x ∧ O (fun _ => j) ρ w b x := by
 rcases h with ⟨rfl, rfl⟩ | ⟨q, σ, rfl, rfl, hq⟩
 ·cases hb
 ·rcases ent_find hq.keys k with ⟨h1, _, _⟩ | ⟨e, he, _, h1, h2⟩
  ·simp only [Option.getD_some] at hb; rw [h1] at hb; cases hb
  ·simp only [Option.getD_some] at hb; rw [h1] at hb
   have hb' : e.2.2.1 = b := Option.some.inj (Option.some.inj hb)
   refine ⟨e.2.1, h2, hb' ▸ ok.mv (hq.obj e he id) (fun p hp => ⟨fun c hc h0 => ⟨rfl, (hq.fine.zero c).1 h0⟩, fun c hc h0 => ⟨rfl, hq.fine.two c (by omega)⟩, Nat.le_refl _⟩) (fun _ _ => hj)⟩
def openTags (ρ σ : Tags) (N t jj : Nat) : Tags := fun b => if 2 + N * t ≤ σ b ∧ σ b < 2 + N * t + N then jj + (σ b - (2 + N * t)) else ρ b
theorem Recs.open_ (h : Recs O N ρ j w lp m) (ok : ObjK N O) (jj : Nat) (hj : 2 ≤ j) (hjj : 2 ≤ jj) (hd : ¬ (jj ≤ j ∧ j < jj + N)) (hbd : ∀ b, ρ b ≠ 0 → b < w.heap.size) (hb : mfind k (lp.getD []) = some (some b)) (hx : mfind k (m.getD []) = some x) :
  ∃ ρ', O (fun p => jj + p) ρ' w b x ∧ RecsH O N k ρ' j w lp m ∧ Tr ρ w (fun t => t == j) ρ' w := by
 rcases h with ⟨rfl, rfl⟩ | ⟨q, σ, rfl, rfl, hq⟩
 ·cases hb
 rcases ent_find hq.keys k with ⟨h1, _, _⟩ | ⟨e, he, hek, h1, h2⟩
 ·simp only [Option.getD_some] at hb; rw [h1] at hb; cases hb
 simp only [Option.getD_some] at hb hx
 rw [h1] at hb
 rw [h2] at hx
 have hb' : e.2.2.1 = b := Option.some.inj (Option.some.inj hb)
 have hx' : e.2.1 = x := Option.some.inj hx
 have hz : ∀ c, openTags ρ σ N e.2.2.2 jj c = 0 ↔ ρ c = 0 := fun c => by
  unfold openTags
  split
  ·rename_i hc
   have := hq.fine.two c (by omega)
   omega
  ·exact Iff.rfl
 refine ⟨openTags ρ σ N e.2.2.2 jj, ?_, .inr ⟨q, fun c => if 2 + N * e.2.2.2 ≤ σ c ∧ σ c < 2 + N * e.2.2.2 + N then 1 else σ c, rfl, rfl, ⟨fun c => ?_, fun c hc => ?_⟩, hq.keys, hq.tags, fun e' he' hn => ?_⟩, ⟨fun c hc hj' => ⟨rfl, ?_⟩, by simp; omega, by simp; omega, rfl, rfl, rfl, Nat.le_refl _, fun c hc => hbd c fun h0 => hc ((hz c).2 h0)⟩⟩
 ·rw [← hb', ← hx']
  refine ok.mv (hq.obj e he id) (fun p hp => ⟨fun c hc h0 => ⟨rfl, ?_⟩, fun c hc h0 => ⟨rfl, ?_⟩, Nat.le_refl _⟩) (fun p hp => by omega)
  ·exact (hz c).2 ((hq.fine.zero c).1 h0)
  ·unfold openTags; rw [if_pos (by omega)]; omega
 ·rw [hz]
  by_cases hc : 2 + N * e.2.2.2 ≤ σ c ∧ σ c < 2 + N * e.2.2.2 + N
  ·rw [if_pos hc]
   have := hq.fine.two c (by omega)
   omega
  ·rw [if_neg hc]; exact hq.fine.zero c
 ·unfold openTags
  by_cases hc' : 2 + N * e.2.2.2 ≤ σ c ∧ σ c < 2 + N * e.2.2.2 + N
  ·rw [if_pos hc'] at hc; omega
  ·rw [if_neg hc'] at hc ⊢; exact hq.fine.two c hc
 ·have hne : e'.2.2.2 ≠ e.2.2.2 := fun h => hn (by have := uniq_tag hq.tags he' he h; subst this; exact hek)
  refine ok.mv (hq.obj e' he' id) (fun p hp => ⟨fun c hc h0 => ⟨rfl, ?_⟩, fun c hc h0 => ⟨rfl, ?_⟩, Nat.le_refl _⟩) (fun p hp => by omega)
  ·rw [if_neg (by omega)]; exact h0
  ·rw [if_neg]; · exact h0
   rintro ⟨g1, g2⟩
   exact tag_ne (p := p) (p' := σ c - (2 + N * e.2.2.2)) hne hp (by omega) (by omega)
 ·unfold openTags
  rw [if_neg]
  rintro ⟨g1, g2⟩
  have := hq.fine.two c (by omega)
  simp [this] at hj'
theorem put_lp {k : K} {x : R} : ∀ {q : List (ent K R)} {e : ent K R}, (q.map (·.1)).Nodup → e ∈ q → e.1 = k →
  lpOf (q.map fun a => if a.1 = k then (a.1, x, a.2.2) else a) = lpOf q ∧ mOf (q.map fun a => if a.1 = k then (a.1, x, a.2.2) else a) = mputL k x (mOf q)
 | a :: q, e, hk, he, hek => by
  rw [List.map_cons, List.nodup_cons] at hk
  have other : ∀ q' : List (ent K R), (∀ a ∈ q', a.1 ≠ k) → q'.map (fun a => if a.1 = k then (a.1, x, a.2.2) else a) = q' := fun q' h => by
   induction q' with
   | nil => rfl
   | cons c q' ih => rw [List.map_cons, if_neg (h c (by simp)), ih fun a ha => h a (by simp [ha])]
  by_cases ha : a.1 = k
  ·have hq : ∀ c ∈ q, c.1 ≠ k := fun c hc h => hk.1 (List.mem_map.2 ⟨c, hc, h.trans ha.symm⟩)
   rw [List.map_cons, if_pos ha, other q hq]
   simp only [lpOf, mOf, List.map_cons, mputL]
   rw [if_pos ha.symm, ha]
   constructor <;> first | trivial | rfl
  ·have he' : e ∈ q := by rcases List.mem_cons.1 he with rfl | he; exact absurd hek ha; exact he
   obtain ⟨h1, h2⟩ := put_lp (x := x) hk.2 he' hek
   rw [List.map_cons, if_neg ha]
   simp only [lpOf, mOf, List.map_cons, mputL] at h1 h2 ⊢
   rw [if_neg (fun h => ha h.symm), h1, h2]
   exact ⟨rfl, rfl⟩
def closeTags (ρ : Tags) (N j jj : Nat) : Tags := fun b => if jj ≤ ρ b ∧ ρ b < jj + N then j else ρ b
theorem RecsH.close (h : RecsH O N k ρ j w lp m) (ok : ObjK N O) (jj : Nat) (hj : 2 ≤ j) (hjj : 2 ≤ jj) (hd : ¬ (jj ≤ j ∧ j < jj + N)) (hbd : ∀ b, ρ b ≠ 0 → b < w.heap.size) (hb : mfind k (lp.getD []) = some (some b)) (ho : O (fun p => jj + p) ρ w b x) :
  Recs O N (closeTags ρ N j jj) j w lp (mput m k x) ∧ Tr ρ w (fun t => t == j || rng jj N t) (closeTags ρ N j jj) w := by
 rcases h with ⟨rfl, rfl⟩ | ⟨q, σ, rfl, rfl, hq⟩
 ·cases hb
 rcases ent_find hq.keys k with ⟨h1, _, _⟩ | ⟨e, he, hek, h1, h2⟩
 ·simp only [Option.getD_some] at hb; rw [h1] at hb; cases hb
 simp only [Option.getD_some] at hb
 rw [h1] at hb
 have hb' : e.2.2.1 = b := Option.some.inj (Option.some.inj hb)
 obtain ⟨p1, p2⟩ := put_lp (x := x) hq.keys he hek
 have hkeys : (q.map fun a : ent K R => if a.1 = k then (a.1, x, a.2.2) else a).map (·.1) = q.map (·.1) := by
  rw [List.map_map]; refine List.map_congr_left fun a _ => ?_
  simp only [Function.comp]; split <;> rfl
 have htags : (q.map fun a : ent K R => if a.1 = k then (a.1, x, a.2.2) else a).map (·.2.2.2) = q.map (·.2.2.2) := by
  rw [List.map_map]; refine List.map_congr_left fun a _ => ?_
  simp only [Function.comp]; split <;> rfl
 refine ⟨.inr ⟨q.map fun a => if a.1 = k then (a.1, x, a.2.2) else a, fun c => if jj ≤ ρ c ∧ ρ c < jj + N then 2 + N * e.2.2.2 + (ρ c - jj) else σ c, by rw [p1], ?_, ⟨fun c => ?_, fun c hc => ?_⟩, by rw [hkeys]; exact hq.keys, by rw [htags]; exact hq.tags, fun a ha _ => ?_⟩,
  ⟨fun c hc hj' => ⟨rfl, ?_⟩, by simp [rng]; omega, by simp [rng]; omega, rfl, rfl, rfl, Nat.le_refl _, fun c hc => hbd c fun h0 => hc ?_⟩⟩
 ·rw [p2]; rfl
 ·unfold closeTags
  by_cases hc : jj ≤ ρ c ∧ ρ c < jj + N
  ·rw [if_pos hc, if_pos hc]; omega
  ·rw [if_neg hc, if_neg hc]; exact hq.fine.zero c
 ·unfold closeTags
  by_cases hc' : jj ≤ ρ c ∧ ρ c < jj + N
  ·rw [if_pos hc']
  ·rw [if_neg hc'] at hc ⊢; exact hq.fine.two c hc
 ·obtain ⟨a0, ha0, rfl⟩ := List.mem_map.1 ha
  by_cases hak : a0.1 = k
  ·have : a0 = e := uniq_key hq.keys ha0 he (hak.trans hek.symm)
   subst this
   rw [if_pos hak]
   simp only
   rw [hb']
   refine ok.mv ho (fun p hp => ⟨fun c hc h0 => ⟨rfl, ?_⟩, fun c hc h0 => ⟨rfl, ?_⟩, Nat.le_refl _⟩) (fun p hp => by omega)
   ·rw [if_neg (by omega)]; exact (hq.fine.zero c).2 h0
   ·rw [if_pos (by omega)]; omega
  ·rw [if_neg hak]
   refine ok.mv (hq.obj a0 ha0 hak) (fun p hp => ⟨fun c hc h0 => ⟨rfl, ?_⟩, fun c hc h0 => ⟨rfl, ?_⟩, Nat.le_refl _⟩) (fun p hp => by omega)
   ·have := (hq.fine.zero c).1 h0
    rw [if_neg (by omega)]; exact h0
   ·have := hq.fine.two c (by omega)
    rw [if_neg (by rw [this]; exact hd)]; exact h0
 ·unfold closeTags
  simp only [Bool.or_eq_false_iff, rng, Bool.and_eq_false_iff, decide_eq_false_iff_not] at hj'
  rw [if_neg (by omega)]
 ·unfold closeTags
  rw [if_neg (by omega)]; exact h0
theorem RecsX.put (h : RecsX O N H ρ j w lp m) (hs : m.isSome = true) (k : K) (b : Nat) (x : R) (hH : ∀ y, H y → y = k) : RecsH O N k ρ j w (mput lp k (some b)) (mput m k x) := by
 rcases h with ⟨rfl, rfl⟩ | ⟨q, σ, rfl, rfl, hq⟩
 ·cases hs
 -- a tag that no entry has
 have hfr : ∃ t, t ∉ q.map (·.2.2.2) := by
  refine ⟨(q.map (·.2.2.2)).sum + 1, fun hm => ?_⟩
  have key : ∀ (l : List Nat) (a : Nat), a ∈ l → a ≤ l.sum := by
   intro l
   induction l with
   | nil => intro a h; cases h
   | cons c l ih => intro a h; rcases List.mem_cons.1 h with rfl | h <;> simp only [List.sum_cons]; omega; have := ih a h; omega
  have := key _ _ hm; omega
 obtain ⟨t, ht⟩ := hfr
 rcases ent_find hq.keys k with ⟨h1, h2, h3⟩ | ⟨e, he, hek, h1, h2⟩
 ·have app : ∀ {V : Type} (x : V) (l : List (K × V)), mfind k l = none → mputL k x l = l ++ [(k, x)] := by
   intro V x l
   induction l with
   | nil => intro _; rfl
   | cons p l ih =>
    intro h
    unfold mfind at h
    split at h
    ·cases h
    ·rename_i hne; unfold mputL; rw [if_neg hne, ih h]; rfl
  refine .inr ⟨q ++ [(k, x, b, t)], σ, ?_, ?_, hq.fine, ?_, ?_, fun a ha hn => ?_⟩
  ·show some (mputL k (some b) (lpOf q)) = _
   rw [app _ _ h1]; simp [lpOf]
  ·show some (mputL k x (mOf q)) = _
   rw [app _ _ h2]; simp [mOf]
  ·rw [List.map_append, List.nodup_append]
   refine ⟨hq.keys, by simp, fun a ha c hc => ?_⟩
   simp at hc; subst hc
   obtain ⟨a', ha', rfl⟩ := List.mem_map.1 ha
   exact h3 a' ha'
  ·rw [List.map_append, List.nodup_append]
   refine ⟨hq.tags, by simp, fun a ha c hc => ?_⟩
   simp at hc; subst hc
   exact fun e => ht (e ▸ ha)
  ·rcases List.mem_append.1 ha with ha | ha
   ·exact hq.obj a ha fun hy => hn (hH _ hy)
   ·simp at ha; subst ha; exact absurd rfl hn
 ·have hb : ∀ (q : List (ent K R)) (e : ent K R), (q.map (·.1)).Nodup → e ∈ q → e.1 = k → lpOf (q.map fun a => if a.1 = k then (a.1, x, b, a.2.2.2) else a) = mputL k (some b) (lpOf q) ∧ mOf (q.map fun a => if a.1 = k then (a.1, x, b, a.2.2.2) else a) = mputL k x (mOf q) := by
   intro q
   induction q with
   | nil => intro e _ h; cases h
   | cons a q ih =>
    intro e hk he hek
    rw [List.map_cons, List.nodup_cons] at hk
    have other : ∀ q' : List (ent K R), (∀ a ∈ q', a.1 ≠ k) → q'.map (fun a => if a.1 = k then (a.1, x, b, a.2.2.2) else a) = q' := fun q' h => by
     induction q' with
     | nil => rfl
     | cons c q' ih => rw [List.map_cons, if_neg (h c (by simp)), ih fun a ha => h a (by simp [ha])]
    by_cases ha : a.1 = k
    ·have hq : ∀ c ∈ q, c.1 ≠ k := fun c hc h => hk.1 (List.mem_map.2 ⟨c, hc, h.trans ha.symm⟩)
     rw [List.map_cons, if_pos ha, other q hq]
     simp only [lpOf, mOf, List.map_cons, mputL]
     rw [if_pos ha.symm, if_pos ha.symm, ha]
     exact ⟨rfl, rfl⟩
    ·have he' : e ∈ q := by rcases List.mem_cons.1 he with rfl | he; exact absurd hek ha; exact he
     obtain ⟨h1, h2⟩ := ih e hk.2 he' hek
     rw [List.map_cons, if_neg ha]
     simp only [lpOf, mOf, List.map_cons, mputL] at h1 h2 ⊢
     rw [if_neg (fun h => ha h.symm), if_neg (fun h => ha h.symm), h1, h2]
     exact ⟨rfl, rfl⟩
  obtain ⟨p1, p2⟩ := hb q e hq.keys he hek
  refine .inr ⟨q.map fun a => if a.1 = k then (a.1, x, b, a.2.2.2) else a, σ, by rw [p1]; rfl, by rw [p2]; rfl, hq.fine, ?_, ?_, fun a ha hn => ?_⟩
  ·have : (q.map fun a : ent K R => if a.1 = k then (a.1, x, b, a.2.2.2) else a).map (·.1) = q.map (·.1) := by
    rw [List.map_map]; refine List.map_congr_left fun a _ => ?_
    simp only [Function.comp]; split <;> rfl
   rw [this]; exact hq.keys
  ·have : (q.map fun a : ent K R => if a.1 = k then (a.1, x, b, a.2.2.2) else a).map (·.2.2.2) = q.map (·.2.2.2) := by
    rw [List.map_map]; refine List.map_congr_left fun a _ => ?_
    simp only [Function.comp]; split <;> rfl
   rw [this]; exact hq.tags
  ·obtain ⟨a0, ha0, rfl⟩ := List.mem_map.1 ha
   by_cases hak : a0.1 = k
   ·rw [if_pos hak] at hn; exact absurd hak hn
   ·rw [if_neg hak] at hn ⊢
    exact hq.obj a0 ha0 fun hy => hn (hH _ hy)
theorem RecsX.del (h : RecsX O N H ρ j w lp m) (k : K) : RecsX O N H ρ j w (mdel lp k) (mdel m k) := by
 rcases h with ⟨rfl, rfl⟩ | ⟨q, σ, rfl, rfl, hq⟩
 ·exact .inl ⟨rfl, rfl⟩
 ·have key : ∀ q : List (ent K R), ∃ q', q'.Sublist q ∧ mdelL k (lpOf q) = lpOf q' ∧ mdelL k (mOf q) = mOf q' := by
   intro q
   induction q with
   | nil => exact ⟨[], .slnil, rfl, rfl⟩
   | cons a q ih =>
    simp only [lpOf, mOf, List.map_cons, mdelL]
    by_cases ha : k = a.1
    ·rw [if_pos ha, if_pos ha]; exact ⟨q, List.sublist_cons_self _ _, rfl, rfl⟩
    ·rw [if_neg ha, if_neg ha]
     obtain ⟨q', s, e1, e2⟩ := ih
     exact ⟨a :: q', s.cons_cons a, by simp only [lpOf] at e1; rw [e1]; rfl, by simp only [mOf] at e2; rw [e2]; rfl⟩
  obtain ⟨q', s, e1, e2⟩ := key q
  exact .inr ⟨q', σ, by show some (mdelL k (lpOf q)) = _; rw [e1], by show some (mdelL k (mOf q)) = _; rw [e2], hq.fine, (s.map _).nodup hq.keys, (s.map _).nodup hq.tags, fun a ha hn => hq.obj a (s.subset ha) hn⟩
def mgetP (m : GMap K R) (k : K) : Option R := mfind k (m.getD [])
theorem RecsX.at_ (h : RecsX O N H ρ j w lp m) (hx : mgetP m k = some x) : ∃ b, mfind k (lp.getD []) = some (some b) ∧ pval (mgetD lp k none) = .pointer (some ⟨b, 0, none⟩) := by
 rcases h.look k with ⟨_, _, h3⟩ | ⟨b, y, h1, h2, _⟩
 ·unfold mgetP at hx; rw [h3] at hx; cases hx
 ·exact ⟨b, h2, by rw [h1]; rfl⟩
theorem RecsX.ptrNil (h : RecsX O N H ρ j w lp m) (k : K) : (mgetD lp k none).isNone = (mgetP m k).isNone := by
 unfold mgetP
 rcases h.look k with ⟨h1, _, h3⟩ | ⟨b, y, h1, _, h3⟩ <;> rw [h1, h3] <;> rfl
theorem Recs.peekX (h : Recs O N ρ j w lp m) (ok : ObjK N O) (hj : j ≠ 0) (hx : mgetP m k = some x) : ∃ b, pval (mgetD lp k none) = .pointer (some ⟨b, 0, none⟩) ∧ O (fun _ => j) ρ w b x := by
 obtain ⟨b, hb, hv⟩ := RecsX.at_ h hx
 obtain ⟨y, h1, h2⟩ := h.peek ok hj hb
 unfold mgetP at hx
 rw [hx] at h1
 have := Option.some.inj h1
 subst this
 exact ⟨b, hv, h2⟩
theorem Recs.openX (h : Recs O N ρ j w lp m) (ok : ObjK N O) (jj : Nat) (hj : 2 ≤ j) (hjj : 2 ≤ jj) (hd : ¬ (jj ≤ j ∧ j < jj + N)) (hbd : ∀ b, ρ b ≠ 0 → b < w.heap.size) (hx : mgetP m k = some x) :
  ∃ b ρ', mfind k (lp.getD []) = some (some b) ∧ pval (mgetD lp k none) = .pointer (some ⟨b, 0, none⟩) ∧ O (fun p => jj + p) ρ' w b x ∧ RecsH O N k ρ' j w lp m ∧ Tr ρ w (fun t => t == j) ρ' w := by
 obtain ⟨b, hb, hv⟩ := RecsX.at_ h hx
 obtain ⟨ρ', h1, h2, h3⟩ := h.open_ ok jj hj hjj hd hbd hb hx
 exact ⟨b, ρ', hb, hv, h1, h2, h3⟩
theorem find_mput {V : Type} {lp : GMap K V} (hs : lp.isSome = true) (k : K) (x : V) : mfind k ((mput lp k x).getD []) = some x := by
 cases lp with
 | none => cases hs
 | some l => exact mfind_put_self
theorem mgetD_mput {V : Type} {lp : GMap K V} (hs : lp.isSome = true) (k : K) (x z : V) : mgetD (mput lp k x) k z = x := by
 have := find_mput hs k x
 unfold mgetD
 rw [this]; rfl
theorem pval_put {lp : GMap K (Option Nat)} (hs : lp.isSome = true) (k : K) (b : Nat) : pval (mgetD (mput lp k (some b)) k none) = .pointer (some ⟨b, 0, none⟩) := by rw [mgetD_mput hs]; rfl
theorem Recs.putX (h : Recs O N ρ j w lp m) (hs : m.isSome = true) (k : K) (b : Nat) (x : R) : RecsH O N k ρ j w (mput lp k (some b)) (mput m k x) := RecsX.put h hs k b x fun _ h => h.elim
theorem Recs.delX (h : Recs O N ρ j w lp m) (k : K) : Recs O N ρ j w (mdel lp k) (mdel m k) := RecsX.del h k
end
section
variable {P : Program} {K R : Type} [DecidableEq K] {N : Nat} {O : (Nat → Nat) → Tags → World → Nat → R → Prop} {H : K → Prop} {ek : K → Value} {agg : Bool} {ρ ρ2 : Tags} {i i1 j : Nat} {w w1 w2 : World} {v : Value} {lp : GMap K (Option Nat)} {m : GMap K R} {l : Env} {k : K} {U kt et : TypeId}
theorem ev_pmLen {x : Operand} {t : TypeId} {ρ1 : Tags} (h : MapT ek ptrC agg ρ i w v lp) (hr : RecsX O N H ρ2 j w2 lp m) (hU : P.underlying U = some (.map kt et)) (hb : Mv ρ w i ρ1 w1 i1) (hx : look l x = some v) :
  Ev P l (.call { callee := .builtin .len, args := #[x], argTypes := #[U] }) t w1 (.int .i64 (mlen m)) := by
 rw [← hr.len]; exact ev_mapLen h hU hb hx
theorem ev_pmNil {x y : Operand} {B : TypeId} {t : TypeId} (h : MapT ek ptrC agg ρ i w v lp) (hr : RecsX O N H ρ2 j w2 lp m) (hU : P.underlying U = some (.map kt et)) (w1 : World) (hx : look l x = some v) (hy : look l y = some (.map none)) : Ev P l (.binOp .eql U x y B) t w1 (.bool m.isNone) := by
 rw [← hr.isNone]; exact ev_mapNil h hU w1 hx hy
theorem ev_pmLook {x y : Operand} {t : TypeId} {ρ1 : Tags} (h : MapT ek ptrC false ρ i w v lp) (HK : KeyB P kt ek) (hU : P.underlying U = some (.map kt et)) (hz : ∀ w, (zeroValue et).run P w = .ok (.pointer none) w) (hb : Mv ρ w i ρ1 w1 i1) (hx : look l x = some v) (hy : look l y = some (ek k)) :
  Ev P l (.lookup U x y false) t w1 (pval (mgetD lp k none)) := by
 obtain ⟨cs, h1, h2, _⟩ := h.look (zcs := [.pointer none]) (z := none) HK hU hz rfl k
 have h1 : cs = [pval (mgetD lp k none)] := h1
 subst h1
 exact h2 w1 ρ1 i1 hb hx hy
theorem pptr_eq {x y : Operand} {t : TypeId} {T U e : TypeId} {p : Option Nat} {c : Bool} (hp : v = pval p) (hc : p.isNone = c) (hT : P.underlying T = some (.pointer e)) (hx : look l x = some v) (hy : look l y = some (.pointer none)) : Ev P l (.binOp .eql T x y U) t w1 (.bool c) := by
 subst hp
 cases p with
 | none => subst hc; exact ev_peqT_nil hT hx hy
 | some b => subst hc; exact ev_peqT_some hT hx hy
theorem pptr_ne {x y : Operand} {t : TypeId} {T U e : TypeId} {p : Option Nat} {c : Bool} (hp : v = pval p) (hc : p.isNone = c) (hT : P.underlying T = some (.pointer e)) (hx : look l x = some v) (hy : look l y = some (.pointer none)) : Ev P l (.binOp .neq T x y U) t w1 (.bool (!c)) := by
 subst hp
 cases p with
 | none => subst hc; exact ev_pneT_nil hT hx hy
 | some b => subst hc; exact ev_pneT_some hT hx hy
end
end Go.KW
