/- Lists whose elements hold slices of their own: each such slice lies in a block that only the element of this key holds. -/
import Derived.Test.YtkhodjenbganfaaGreatDoorKwOpt
set_option linter.unusedSectionVars false
set_option linter.unusedVariables false
namespace Go.KW
open Go Go.RowKit
structure NM (T : Type) where
 own : Nat → Str
 hdr : Nat → Value
 val : Nat → List T
 pend : Option (Str × Nat)
def NM.zero {T : Type} : NM T := ⟨fun _ => [], fun _ => .slice none 0 0, fun _ => [], none⟩
def NR {T : Type} (M : NM T) (u : Value) (i : Str) (ps : List T) : Prop :=
 (u = .slice none 0 0 ∧ ps = []) ∨ (ps ≠ [] ∧ u.oneCell' = true ∧ ((∃ b, u.ownBlock = some b ∧ M.own b = i ∧ M.hdr b = u ∧ M.val b = ps) ∨ ∃ m, M.pend = some (i, m) ∧ ps.length < m))
def NestT {T : Type} (c : Cdc T) (E : TypeId) (ρ : Tags) (j : Nat) (w : World) (M : NM T) (q : Option (Str × Nat)) : Prop :=
 M.pend = q ∧ ∀ b, M.val b ≠ [] → OwnT c E ρ j w (M.hdr b) (M.val b) ∧ (M.hdr b).ownBlock = some b
section
variable {P : Program} {f : FuncId} {n : Nat} {k : List Item} {Qr : Exit → Act → World → Prop} {l : Env} {w w' : World} {ops : Array Oper} {rest : List Oper} {t : TypeId}
variable {T S : Type} {c : Cdc T} {E : TypeId} {ρ ρ' : Tags} {j j' : Nat} {M M' : NM T} {q : Option (Str × Nat)} {v v2 u : Value} {xs ys ps : List T} {i : Str}
theorem NR.nil : NR M (.slice none 0 0) i [] := .inl ⟨rfl, rfl⟩
theorem NR.cast {i' : Str} (h : NR M u i ps) (e : i = i') : NR M u i' ps := e ▸ h
theorem NR.oneCell (h : NR M u i ps) : u.oneCell' = true := by
 rcases h with ⟨rfl, _⟩ | ⟨_, h, _⟩
 ·rfl
 ·exact h
theorem NestT.new : NestT c E ρ j w NM.zero none := ⟨rfl, fun b h => absurd rfl h⟩
theorem NestT.mv (h : NestT c E ρ j w M q) (m : Mv ρ w j ρ' w' j') (hj : j' ≠ 0) : NestT c E ρ' j' w' M q :=
 ⟨h.1, fun b hb => ⟨(h.2 b hb).1.mv m hj, (h.2 b hb).2⟩⟩
theorem NestT.get (h : NestT c E ρ j w M none) (hR : NR M u i ps) : (u = .slice none 0 0 ∧ ps = []) ∨ ∃ b, ps ≠ [] ∧ OwnT c E ρ j w u ps ∧ u.ownBlock = some b ∧ M.own b = i ∧ M.hdr b = u ∧ M.val b = ps := by
 rcases hR with hR | ⟨h1, _, ⟨b, h2, h3, h4, h5⟩ | ⟨m, h2, _⟩⟩
 ·exact .inl hR
 ·have := (h.2 b (by rw [h5]; exact h1)).1
  rw [h4, h5] at this
  exact .inr ⟨b, h1, this, h2, h3, h4, h5⟩
 ·rw [h.1] at h2; cases h2
theorem NestT.ownT (h : NestT c E ρ j w M none) (hR : NR M u i ps) : OwnT c E ρ j w u ps := by
 rcases h.get hR with ⟨rfl, rfl⟩ | ⟨b, _, h1, _⟩
 ·exact OwnT.nil
 ·exact h1
theorem NestT.sl (h : NestT c E ρ j w M none) (hR : NR M u i ps) : SlT c ρ j w u ps := (h.ownT hR).sl
theorem own_none {A : Nat → Prop} {B : Nat} (h : OwnS c E A B w v xs) (hx : xs ≠ []) : ∃ b, v.ownBlock = some b ∧ v.oneCell' = true := by
 obtain ⟨cells, h1, _⟩ := h
 rcases h1.2 with ⟨_, hn⟩ | ⟨g, cap, cur, rfl, _⟩
 ·exact absurd (List.eq_nil_of_length_eq_zero hn) hx
 ·exact ⟨g, rfl, rfl⟩
theorem OwnT.cmap {c1 c2 : Cdc S} {zs : List S} {i : Nat} (h : OwnT c1 E ρ i w v zs) (hs : c1.size = c2.size) (hm : ∀ A w cs x, x ∈ zs → c1.rd A w cs x → c2.rd A w cs x) : OwnT c2 E ρ i w v zs := by
 obtain ⟨⟨cells, h1, h2, h3⟩, ht⟩ := h
 refine ⟨⟨cells, by rw [← hs]; exact h1, h2, fun k x hx => ?_⟩, ht⟩
 rw [← hs]
 exact hm _ _ _ _ (List.mem_of_getElem? hx) (h3 k x hx)
def NM.grow (M : NM T) (i : Str) (o : Option Nat) (g : Nat) (u : Value) (ps : List T) : NM T :=
 ⟨fun b => if b = g then i else M.own b, fun b => if b = g then u else M.hdr b, fun b => if b = g then ps else if o = some b then [] else M.val b, some (i, ps.length)⟩
def NM.clr (M : NM T) : NM T := ⟨M.own, M.hdr, M.val, none⟩
def NM.drop (M : NM T) (o : Option Nat) : NM T := ⟨M.own, M.hdr, fun b => if o = some b then [] else M.val b, M.pend⟩
theorem NR.clr (h : NR M u i ps) (hp : ∀ k, M.pend = some (i, k) → k ≤ ps.length) : NR M.clr u i ps := by
 rcases h with h | ⟨h1, h0, ⟨b, h2, h3, h4, h5⟩ | ⟨m, h2, h3⟩⟩
 ·exact .inl h
 ·exact .inr ⟨h1, h0, .inl ⟨b, h2, h3, h4, h5⟩⟩
 ·have := hp m h2; omega
theorem NestT.clr (h : NestT c E ρ j w M q) : NestT c E ρ j w M.clr none := ⟨rfl, h.2⟩
theorem NestT.at {zs : List S} {key : S → Str} {ln : S → Nat} {m : Nat} (h : NestT c E ρ j w M (some (i, m))) (hall : (zs.all fun x => key x != i || decide (m ≤ ln x)) = true) {x : S} (hx : x ∈ zs) : ∀ k, M.pend = some (key x, k) → k ≤ ln x := by
 intro k hk
 rw [h.1] at hk
 simp only [Option.some.injEq, Prod.mk.injEq] at hk
 have := List.all_eq_true.1 hall x hx
 simp only [Bool.or_eq_true, bne_iff_ne, ne_eq, decide_eq_true_eq] at this
 rcases this with h1 | h1
 ·exact absurd hk.1.symm h1
 ·omega
theorem ne_at {zs : List S} {key : S → Str} (hall : (zs.all fun x => key x != i) = true) {x : S} (hx : x ∈ zs) : key x ≠ i := by
 have := List.all_eq_true.1 hall x hx
 simpa using this
theorem sr_appendN {d : Nat} {x y : Operand} {U : TypeId} {ti : TypeInfo} {zv : Value} {pos : String} {after : Array Edge} (hN : NestT c E ρ j w M none) (hR : NR M v i xs) (src : SlX c (Wb ρ) w v2 ys) (hy0 : ys ≠ [])
  (hT : P.underlying U = some (.slice E)) (hE : P.info? E = some ti) (hz : ti.zero = some zv) (hs : ti.size = c.size) (hzs : zv.cells.size = c.size) (h0 : 0 < c.size) (hb : ti.bytes ≤ 32768)
  (hi : 2 ≤ j) (hbd : ∀ b, ρ b ≠ 0 → b < w.heap.size) (hf : fitL xs.length ys.length = true)
  (hx : look l x = some v) (hy : look l y = some v2) (hd : d < n)
  (hk : ∀ v' ρ' w' M', NestT c E ρ' j w' M' (some (i, (xs ++ ys).length)) → NR M' v' i (xs ++ ys) → (∀ u k ps, NR M u k ps → NR M' u k ps) → Tr ρ w (fun t => t == j) ρ' w' → SR P Qr n ops rest (l.put d v') w') :
  SR P Qr n ops (⟨some d, .call { callee := .builtin .append, args := #[x, y], argTypes := #[U, U] }, t, pos, after, none⟩ :: rest) l w := by
 have own := hN.ownT hR
 obtain ⟨v', w', hrun, h1, h2, h3, h4, h5⟩ := run_append_slX (P := P) (ty := t) own.own src hT hE hz hs hzs h0 hb (Nat.zero_le _) hf
 obtain ⟨g, hg, hone⟩ := own_none h1 (by simp [hy0])
 have htr : Tr ρ w (fun t => t == j) (ownTags ρ j v') w' := own_tr own.tag hi hbd h3 h4 h5 fun b hb => (h1.lt b hb).2
 have h1' : OwnT c E (ownTags ρ j v') j w' v' (xs ++ ys) := ⟨by rw [← own_wb hi]; exact h1, fun b hb => by simp [ownTags, hb]⟩
 intro a ha
 refine wpl_of_run wanted_none (v := v') (w' := w') ?_ (hk v' (ownTags ρ j v') w' (M.grow i v.ownBlock g v' (xs ++ ys)) ⟨rfl, fun b hb' => ?_⟩ ?_ ?_ htr _ (ha.put _ hd))
 ·simp [execOp, resolve, invoke, builtin, ha.look hx, ha.look hy, hrun]
 ·simp only [NM.grow] at hb' ⊢
  by_cases hbg : b = g
  ·simp only [hbg, if_true]; exact ⟨h1', hg⟩
  ·simp only [hbg, if_false] at hb' ⊢
   by_cases ho : v.ownBlock = some b
   ·simp [ho] at hb'
   ·simp only [ho, if_false] at hb' ⊢
    obtain ⟨k1, k2⟩ := hN.2 b hb'
    refine ⟨⟨?_, fun g' hg' => ?_⟩, k2⟩
    ·rw [← own_wb hi]
     exact k1.own.keep h2 (fun _ h => .inl h) fun g' hg' => by
      rw [k2] at hg'; obtain rfl := Option.some.inj hg'
      exact h4 b (k1.own.lt b k2).2 ho
    ·rw [k2] at hg'; obtain rfl := Option.some.inj hg'
     unfold ownTags
     rw [if_neg (by rw [hg]; intro q; exact hbg (Option.some.inj q).symm)]
     exact k1.tag b k2
 ·exact .inr ⟨by simp [hy0], hone, .inl ⟨g, hg, by simp [NM.grow], by simp [NM.grow], by simp [NM.grow]⟩⟩
 ·intro u k ps hu
  rcases hN.get hu with hu | ⟨b, e0, e1, e2, e3, e4, e5⟩
  ·exact .inl hu
  ·refine .inr ⟨e0, NR.oneCell hu, ?_⟩
   by_cases hst : b = g ∨ v.ownBlock = some b
   ·have hvb : v.ownBlock = some b := by
     rcases hst with rfl | h
     ·rcases h5 b hg with h | h
      ·exact h
      ·exact absurd (e1.own.lt b e2).2 (by omega)
     ·exact h
    rcases hN.get hR with ⟨rfl, _⟩ | ⟨b2, f0, f1, f2, f3, f4, f5⟩
    ·simp [Value.ownBlock] at hvb
    ·rw [hvb] at f2; obtain rfl := Option.some.inj f2
     refine .inr ⟨_, by rw [← e3, f3]; rfl, ?_⟩
     rw [← e5, f5]
     have : 0 < ys.length := List.length_pos_iff.2 hy0
     simp; omega
   ·have hbg : b ≠ g := fun q => hst (.inl q)
    have ho : v.ownBlock ≠ some b := fun q => hst (.inr q)
    exact .inl ⟨b, e2, by simp only [NM.grow, hbg, if_false]; exact e3, by simp only [NM.grow, hbg, if_false]; exact e4, by simp only [NM.grow, hbg, ho, if_false]; exact e5⟩
theorem NestT.free (hN : NestT c E ρ j w M none) (hR : NR M v i xs) (hi : 2 ≤ j) (hbd : ∀ b, ρ b ≠ 0 → b < w.heap.size) :
  ∃ ρ' M', Tr ρ w (fun t => t == j) ρ' w ∧ SlR c (Wb ρ') w v xs ∧ NestT c E ρ' j w M' none ∧ ∀ u k ps, k ≠ i → NR M u k ps → NR M' u k ps := by
 rcases hN.get hR with ⟨rfl, rfl⟩ | ⟨b, e0, e1, e2, e3, e4, e5⟩
 ·exact ⟨ρ, M, (Tr.refl hbd).weak (fun _ _ => rfl) (by simp; omega) (by simp; omega), SlR.nil, hN, fun _ _ _ _ h => h⟩
 ·have htb : ρ b = j := e1.tag b e2
  have hbl : b < w.heap.size := (e1.own.lt b e2).2
  have htr : Tr ρ w (fun t => t == j) (fun x => if x = b then 0 else ρ x) w := by
   refine ⟨fun x hx hj => ⟨rfl, ?_⟩, by simp; omega, by simp; omega, rfl, rfl, rfl, Nat.le_refl _, fun x hx => ?_⟩
   ·show (if x = b then 0 else ρ x) = ρ x
    rw [if_neg]
    rintro rfl
    rw [htb] at hj; simp at hj
   ·have hx' : (if x = b then 0 else ρ x) ≠ 0 := hx
    split at hx'
    ·exact absurd rfl hx'
    ·exact hbd x hx'
  have hst : St (Wb ρ) w (Wb fun x => if x = b then 0 else ρ x) w := ⟨fun _ _ _ => rfl, Nat.le_refl _, fun x hx => by
   have hx' : (if x = b then 0 else ρ x) ≠ 0 := hx
   split at hx'
   ·exact absurd rfl hx'
   ·exact .inl hx'⟩
  refine ⟨fun x => if x = b then 0 else ρ x, M.drop (some b), htr, ?_, ⟨hN.1, fun b' hb' => ?_⟩, fun u k ps hk hu => ?_⟩
  ·have := e1.sl
   rcases this with h | ⟨b', off, cap, cur, t, fr, h1, h2, h3, h4, h5, h6⟩
   ·exact absurd h.1 e0
   ·rw [h1] at e2
    have hb' : b' = b := by
     have := e1.own
     obtain ⟨cells, q1, _⟩ := this
     rcases q1.2 with ⟨q, _⟩ | ⟨g, cap', cur', q, _⟩
     ·rw [h1] at q; cases q
     ·rw [h1] at q
      simp only [Value.slice.injEq, Option.some.injEq, Addr.mk.injEq] at q
      rw [h1, q.1.1, q.1.2.1] at e1
      have e2' : (Value.slice (some ⟨b', off, none⟩) xs.length cap).ownBlock = some b := e2
      rw [q.1.1, q.1.2.1] at e2'
      simp [Value.ownBlock] at e2'
      omega
    refine .inr ⟨b', off, cap, cur, t, fr, h1, fun hn => hn (by simp [hb']), h3, h4, h5, fun y x hx => c.step (h6 y x hx) hst⟩
  ·simp only [NM.drop] at hb' ⊢
   by_cases hbb : b' = b
   ·simp [hbb] at hb'
   ·have hbb' : (some b = some b') = False := by simp; exact fun q => hbb q.symm
    simp only [hbb', if_false] at hb' ⊢
    obtain ⟨k1, k2⟩ := hN.2 b' hb'
    obtain ⟨cells, q1, q2, q3⟩ := k1.own
    refine ⟨⟨⟨cells, q1, fun g hg => ?_, fun y x hx => c.step (q3 y x hx) hst⟩, fun g hg => ?_⟩, k2⟩
    ·rw [k2] at hg; obtain rfl := Option.some.inj hg
     show (if b' = b then 0 else ρ b') ≠ 0
     rw [if_neg hbb]; exact q2 b' k2
    ·rw [k2] at hg; obtain rfl := Option.some.inj hg
     show (if b' = b then 0 else ρ b') = j
     rw [if_neg hbb]; exact k1.tag b' k2
  ·rcases hN.get hu with hu | ⟨b', f0, f1, f2, f3, f4, f5⟩
   ·exact .inl hu
   ·refine .inr ⟨f0, NR.oneCell hu, .inl ⟨b', f2, f3, f4, ?_⟩⟩
    have hbb : ¬ (some b = some b') := by
     intro q
     obtain rfl := Option.some.inj q
     exact hk (f3.symm.trans e3)
    simp only [NM.drop, if_neg hbb]; exact f5
end
end Go.KW
