/- Tags: slices of the function's own that begin inside their block (cut off in front). -/
import Derived.Test.YtkhodjenbganfaaGreatDoorKwGlob
import Derived.ArgAppend
set_option linter.unusedSectionVars false
set_option linter.unusedVariables false
set_option linter.unusedSimpArgs false
namespace Go.KW
open Go Go.RowKit
def OffT {T : Type} (c : Cdc T) (E : TypeId) (ρ : Tags) (i : Nat) (w : World) (v : Value) (xs : List T) : Prop :=
 (xs = [] ∧ v = .slice none 0 0) ∨ ∃ g off cap cur, v = .slice (some ⟨g, off, none⟩) xs.length cap ∧ ρ g = i ∧ w.heap[g]? = some (.cells cur E (0, 0)) ∧ xs.length ≤ cap ∧ cap ≤ maxLen ∧ off + cap * c.size ≤ cur.size ∧
  ∀ j x, xs[j]? = some x → c.rd (Wb ρ) w (seg cur.toList (off + j * c.size) c.size) x
section
variable {P : Program} {f : FuncId} {R : Ending → World → Prop} {n : Nat} {k : List Item} {Qr : Exit → Act → World → Prop} {l : Env} {w w' : World} {ops : Array Oper} {rest : List Oper} {t : TypeId}
variable {T : Type} {c : Cdc T} {E : TypeId} {ρ ρ' : Tags} {i i' : Nat} {v v2 : Value} {xs ys : List T}
theorem OffT.nil : OffT c E ρ i w (.slice none 0 0) [] := .inl ⟨rfl, rfl⟩
theorem OwnT.off (h : OwnT c E ρ i w v xs) : OffT c E ρ i w v xs := by
 obtain ⟨⟨cells, h1, h2, h3⟩, ht⟩ := h
 rcases h1.2 with ⟨rfl, hn⟩ | ⟨g, cap, cur, rfl, hb, hgg, h4, h5, h6, h7⟩
 ·exact .inl ⟨List.eq_nil_of_length_eq_zero hn, rfl⟩
 ·refine .inr ⟨g, 0, cap, cur, rfl, ht g rfl, hgg, h4, h5, by omega, fun j x hx => ?_⟩
  have hlt := (List.getElem?_eq_some_iff.1 hx).1
  have hle : j * c.size + c.size ≤ xs.length * c.size := by
   rw [← Nat.succ_mul]; exact Nat.mul_le_mul_right _ hlt
  rw [Nat.zero_add, seg_prefix h7 hle]
  exact h3 j x hx
theorem OffT.mv (h : OffT c E ρ i w v xs) (m : Mv ρ w i ρ' w' i') (hi : i' ≠ 0) : OffT c E ρ' i' w' v xs := by
 rcases h with h | ⟨b, off, cap, cur, h1, h2, h3, h4, h5, h6, h7⟩
 ·exact .inl h
 ·have hlt : b < w.heap.size := (Array.getElem?_eq_some_iff.1 h3).1
  have key := m.own b hlt h2
  exact .inr ⟨b, off, cap, cur, h1, key.2, key.1.trans h3, h4, h5, h6, fun j x hx => c.step (h7 j x hx) m.st⟩
theorem OffT.sl (h : OffT c E ρ i w v xs) : SlT c ρ i w v xs := by
 rcases h with ⟨rfl, rfl⟩ | ⟨b, off, cap, cur, h1, h2, h3, h4, h5, h6, h7⟩
 ·exact .inl ⟨rfl, .inl rfl⟩
 ·exact .inr ⟨b, off, cap, cur, E, (0, 0), h1, .inr h2, h3, h4, h5, h7⟩
theorem OffT.asSl (h : OffT c E ρ i w v xs) : SlR c (fun _ => False) w v xs := h.sl.as
theorem OffT.oneCell (h : OffT c E ρ i w v xs) : v.oneCell' = true := h.sl.oneCell
theorem OffT.lt (h : OffT c E ρ i w v xs) : ∀ g, v.ownBlock = some g → ρ g = i ∧ g < w.heap.size := by
 intro g hg
 rcases h with ⟨rfl, rfl⟩ | ⟨b, off, cap, cur, rfl, h2, h3, _⟩
 ·simp [Value.ownBlock] at hg
 ·simp only [Value.ownBlock, Option.some.injEq] at hg
  subst hg
  exact ⟨h2, (Array.getElem?_eq_some_iff.1 h3).1⟩
theorem OffT.cutT_l {U : TypeId} {ti : TypeInfo} {q : Int} (h : OffT c E ρ i w v xs) (hT : P.underlying U = some (.slice E)) (hE : P.info? E = some ti) (hs : ti.size = c.size) (hb : inc q xs.length xs.length = true) :
  ∃ v', OffT c E ρ i w v' (cut xs q xs.length) ∧ ∀ {l : Env} {x y : Operand} {k1 : IntKind} {t : TypeId} (w1 : World), look l x = some v → look l y = some (.int k1 q) → Ev P l (.slice U x (some y) none none) t w1 v' := by
 have hi := inc_iff.1 hb
 have hcl : (cut xs q xs.length).length = xs.length - q.toNat := by simp only [cut, List.length_take, List.length_drop]; omega
 obtain ⟨a, cap, hv, h1, _⟩ := h.sl.as.shape
 refine ⟨.slice (if cap = q.toNat then a else a.map (·.add (q.toNat * c.size))) ((xs.length : Int).toNat - q.toNat) (cap - q.toNat), ?_, fun {l x y k1 t} w1 hx hy e m d' pos' after' gd ha => ?_⟩
 ·rcases h with ⟨rfl, rfl⟩ | ⟨b, off, cap', cur, rfl, h2, h3, h4, h5, h6, h7⟩
  ·simp only [Value.slice.injEq] at hv
   obtain ⟨rfl, _, rfl⟩ := hv
   have : q = 0 := by simp at hi; omega
   subst this
   exact .inl ⟨by simp [cut], by simp⟩
  ·simp only [Value.slice.injEq] at hv
   obtain ⟨rfl, _, rfl⟩ := hv
   by_cases hcap : cap' = q.toNat
   ·refine .inr ⟨b, off, cap' - q.toNat, cur, by rw [hcl, if_pos hcap]; simp, h2, h3, by rw [hcl]; omega, by omega, by rw [hcap, Nat.sub_self, Nat.zero_mul]; omega, fun m x hx => ?_⟩
    have := (List.getElem?_eq_some_iff.1 hx).1
    omega
   ·have hm : (cap' - q.toNat) * c.size + q.toNat * c.size = cap' * c.size := by rw [← Nat.add_mul]; congr 1; omega
    refine .inr ⟨b, off + q.toNat * c.size, cap' - q.toNat, cur, by rw [hcl, if_neg hcap]; simp [addr_add], h2, h3, by rw [hcl]; omega, by omega, by omega, fun m x hx => ?_⟩
    have hx' : xs[q.toNat + m]? = some x := by
     have hlt := (List.getElem?_eq_some_iff.1 hx).1
     rw [hcl] at hlt
     simp only [cut, List.getElem?_take, List.getElem?_drop] at hx
     rw [if_pos (by omega)] at hx
     exact hx
    have := h7 _ _ hx'
    rwa [Nat.add_mul, ← Nat.add_assoc] at this
 ·subst hv
  have := run_slice_sl (P := P) (w := w1) (U := U) (a := a) (len := xs.length) (cap := cap) hT hE (lo := some (k1, q)) (hi := none) (i := q) (j := xs.length) rfl rfl hi.1 hi.2.1 (by omega)
  simp only [Option.map_some, Option.map_none] at this
  simp only [execOp, ha.look hx, ha.look hy, Option.map_some, Option.map_none, Sem.run_bind, this, Result.andThen_ok, Sem.run_pure, hs]
theorem run_append_room_row {U ty : TypeId} {ti : TypeInfo} (hT : P.underlying U = some (.slice E)) (hE : P.info? E = some ti)
  (b off sLen sCap : Nat) (cur : Array Value) (hb : w.heap[b]? = some (.cells cur E (0, 0))) (a : Addr) (m cp : Nat) (news : List Value) (hl : news.length = m * ti.size) (hnews : ∀ j u, news[j]? = some u → w.cell? (a.add j) = some u) (h1 : ∀ u ∈ news, u.oneCell' = true)
  (hroom : sLen + m ≤ sCap) (hfit : off + sLen * ti.size + news.length ≤ cur.size) :
  (Builtin.append_ #[U, U] ty #[.slice (some ⟨b, off, none⟩) sLen sCap, .slice (some a) m cp]).run P w = .ok (.slice (some ⟨b, off, none⟩) (sLen + m) sCap) (w.setRow b (cur.toList.take (off + sLen * ti.size) ++ news ++ cur.toList.drop (off + sLen * ti.size + news.length)).toArray) := by
 have hfc := run_firstCells_some (P := P) w ti.size m a m cp news hl hnews
 have hst := run_storeCells_at P b (off + sLen * ti.size) E news 0 cur w hb (by simpa using hfit) h1
 simp only [Nat.add_zero] at hst
 simp [Builtin.append_, run_underlying hT, sizeOf, typeInfo, hE, Builtin.lenOf, hroom, hfc, Addr.add_lit, hst]
theorem sr_appendO {i d : Nat} {x y : Operand} {U : TypeId} {ti : TypeInfo} {zv : Value} {pos : String} {after : Array Edge} (own : OffT c E ρ i w v xs) (src : SlX c (Wb ρ) w v2 ys)
  (hT : P.underlying U = some (.slice E)) (hE : P.info? E = some ti) (hz : ti.zero = some zv) (hs : ti.size = c.size) (hzs : zv.cells.size = c.size) (h0 : 0 < c.size) (hb : ti.bytes ≤ 32768)
  (hi : 2 ≤ i) (hbd : ∀ b, ρ b ≠ 0 → b < w.heap.size) (hf : fitL xs.length ys.length = true)
  (hx : look l x = some v) (hy : look l y = some v2) (hd : d < n)
  (hk : ∀ v' ρ' w', OffT c E ρ' i w' v' (xs ++ ys) → Tr ρ w (fun t => t == i) ρ' w' → SR P Qr n ops rest (l.put d v') w') :
  SR P Qr n ops (⟨some d, .call { callee := .builtin .append, args := #[x, y], argTypes := #[U, U] }, t, pos, after, none⟩ :: rest) l w := by
 rcases own with ⟨rfl, rfl⟩ | ⟨g, off, cap, cur, rfl, hg, hgg, h4, h5, h6, h7⟩
 ·exact sr_appendT OwnT.nil src hT hE hz hs hzs h0 hb hi hbd hf hx hy hd fun v' ρ' w' h htr => hk v' ρ' w' h.off htr
 have hfit := of_decide_eq_true hf
 have key : ∀ v' ρ' w', (Builtin.append_ #[U, U] t #[.slice (some ⟨g, off, none⟩) xs.length cap, v2]).run P w = .ok v' w' → OffT c E ρ' i w' v' (xs ++ ys) → Tr ρ w (fun t => t == i) ρ' w' →
   SR P Qr n ops (⟨some d, .call { callee := .builtin .append, args := #[x, y], argTypes := #[U, U] }, t, pos, after, none⟩ :: rest) l w := by
  intro v' ρ' w' hrun h1 h2 a ha
  refine wpl_of_run wanted_none (v := v') (w' := w') ?_ (hk v' ρ' w' h1 h2 _ (ha.put _ hd))
  simp [execOp, resolve, invoke, builtin, ha.look hx, ha.look hy, hrun]
 have same : (Builtin.append_ #[U, U] t #[.slice (some ⟨g, off, none⟩) xs.length cap, v2]).run P w = .ok (.slice (some ⟨g, off, none⟩) xs.length cap) w → ys = [] →
   SR P Qr n ops (⟨some d, .call { callee := .builtin .append, args := #[x, y], argTypes := #[U, U] }, t, pos, after, none⟩ :: rest) l w := by
  rintro hrun rfl
  refine key _ ρ w hrun ?_ ((Tr.refl hbd).weak (fun _ _ => rfl) (by simp; omega) (by simp; omega))
  rw [List.append_nil]
  exact .inr ⟨g, off, cap, cur, rfl, hg, hgg, h4, h5, h6, h7⟩
 have gen : ∀ (a : Addr) (cp : Nat) (news : List Value), v2 = .slice (some a) ys.length cp → news.length = ys.length * c.size → (∀ j u, news[j]? = some u → w.cell? (a.add j) = some u) → (∀ u ∈ news, u.oneCell' = true) →
   (∀ j x, ys[j]? = some x → c.rd (Wb ρ) w (seg news (j * c.size) c.size) x) →
   SR P Qr n ops (⟨some d, .call { callee := .builtin .append, args := #[x, y], argTypes := #[U, U] }, t, pos, after, none⟩ :: rest) l w := by
  intro a cp news hv2 hl hnews h1 hrd
  subst hv2
  have hmul : xs.length * c.size + ys.length * c.size = (xs.length + ys.length) * c.size := by rw [Nat.add_mul]
  have hxc : xs.length * c.size ≤ cap * c.size := Nat.mul_le_mul_right _ h4
  have hol : (seg cur.toList off (xs.length * c.size)).length = xs.length * c.size := by simp [seg]; omega
  by_cases hr : xs.length + ys.length ≤ cap
  ·have hxy : (xs.length + ys.length) * c.size ≤ cap * c.size := Nat.mul_le_mul_right _ hr
   have hfit2 : off + xs.length * ti.size + news.length ≤ cur.size := by rw [hs, hl]; omega
   have hrun := run_append_room_row (P := P) (w := w) (ty := t) hT hE g off xs.length cap cur hgg a ys.length cp news (by rw [hs]; exact hl) hnews h1 hr hfit2
   rw [hs] at hrun hfit2
   have hw := wr_setRow (A := fun b => b = g) (w := w) (cs := (cur.toList.take (off + xs.length * c.size) ++ news ++ cur.toList.drop (off + xs.length * c.size + news.length)).toArray) (rfl : (fun b => b = g) g)
   have hgt := setRow_heap w g cur (cur.toList.take (off + xs.length * c.size) ++ news ++ cur.toList.drop (off + xs.length * c.size + news.length)).toArray E (0, 0) hgg
   have htr : Tr ρ w (fun t => t == i) ρ (w.setRow g (cur.toList.take (off + xs.length * c.size) ++ news ++ cur.toList.drop (off + xs.length * c.size + news.length)).toArray) := .of_wr hw hg hi hbd
   refine key _ ρ _ hrun (.inr ⟨g, off, cap, _, by rw [List.length_append], hg, hgt, by rw [List.length_append]; exact hr, h5, ?_, fun j z hz => ?_⟩) htr
   ·have : (cur.toList.take (off + xs.length * c.size) ++ news ++ cur.toList.drop (off + xs.length * c.size + news.length)).length = cur.size := by simp; omega
    rw [List.size_toArray, this]; exact h6
   ·refine c.step ?_ htr.st
    have hget : ∀ m, (cur.toList.take (off + xs.length * c.size) ++ news ++ cur.toList.drop (off + xs.length * c.size + news.length))[m]? = _ := fun m => over_get (by simpa using hfit2)
    by_cases hj : j < xs.length
    ·rw [List.getElem?_append_left hj] at hz
     have hjs : j * c.size + c.size ≤ xs.length * c.size := by rw [← Nat.succ_mul]; exact Nat.mul_le_mul_right _ hj
     have e : seg (cur.toList.take (off + xs.length * c.size) ++ news ++ cur.toList.drop (off + xs.length * c.size + news.length)) (off + j * c.size) c.size = seg cur.toList (off + j * c.size) c.size := by
      apply List.ext_getElem?
      intro m
      rw [seg_getElem, seg_getElem]
      by_cases hm : m < c.size
      ·rw [if_pos hm, if_pos hm, hget, if_pos (by omega)]
      ·rw [if_neg hm, if_neg hm]
     rw [e]; exact h7 j z hz
    ·rw [List.getElem?_append_right (by omega)] at hz
     have hjy := (List.getElem?_eq_some_iff.1 hz).1
     have hjs : (j - xs.length) * c.size + c.size ≤ ys.length * c.size := by rw [← Nat.succ_mul]; exact Nat.mul_le_mul_right _ hjy
     have hsum : xs.length * c.size + (j - xs.length) * c.size = j * c.size := by rw [← Nat.add_mul]; congr 1; omega
     have e : seg (cur.toList.take (off + xs.length * c.size) ++ news ++ cur.toList.drop (off + xs.length * c.size + news.length)) (off + j * c.size) c.size = seg news ((j - xs.length) * c.size) c.size := by
      apply List.ext_getElem?
      intro m
      rw [seg_getElem, seg_getElem]
      by_cases hm : m < c.size
      ·rw [if_pos hm, if_pos hm, hget, if_neg (by omega), if_pos (by omega)]
       congr 1; omega
      ·rw [if_neg hm, if_neg hm]
     rw [e]; exact hrd _ _ hz
  ·have hmax : xs.length + ys.length ≤ maxLen := by simp only [maxLen]; omega
   have hbytes : (xs.length + ys.length) * ti.bytes ≤ 140737488355328 := Nat.le_trans (Nat.mul_le_mul hfit hb) (by decide)
   have holds : ∀ j u, (seg cur.toList off (xs.length * c.size))[j]? = some u → w.cell? ((⟨g, off, none⟩ : Addr).add j) = some u := by
    intro j u hj
    rw [addr_add]
    have := seg_get hj
    simp only [World.cell?, hgg]
    simpa using this
   obtain ⟨v', w', hrun, ho, hgr⟩ := run_append_arg_grows (P := P) (w := w) U t E ti zv c.size ti.bytes hT hE hz hs rfl hzs h0 ⟨g, off, none⟩ xs.length cap (seg cur.toList off (xs.length * c.size)) hol holds
    a ys.length cp news hl hnews (by omega) hmax hbytes
   have hB : Below 0 w w' := (Below.refl 0 w).grown hgr (Nat.zero_le _) (fun k hk => by cases hk)
   have hlt' := ho.lt
   have htr : Tr ρ w (fun t => t == i) (ownTags ρ i v') w' := own_tr (v := .slice (some ⟨g, off, none⟩) xs.length cap) (fun g' e => by simp only [Value.ownBlock, Option.some.injEq] at e; subst e; exact hg) hi hbd hB
    (fun b hb hne => hgr.block b hb (by simp)) (fun b hb => .inr (hlt' b hb).1) (fun b hb => (hlt' b hb).2)
   have hOwn : OwnT c E (ownTags ρ i v') i w' v' (xs ++ ys) := by
    refine ⟨⟨seg cur.toList off (xs.length * c.size) ++ news, ⟨by rw [List.length_append, hol, hl, List.length_append, hmul], ?_⟩, fun b hb => ?_, fun j z hz => ?_⟩, fun b hb => by simp [ownTags, hb]⟩
    ·rcases ho.2 with ⟨h8, h9⟩ | ⟨g2, cap2, cur2, h8, h9, h10, h11, h12, h13, h14⟩
     ·exact .inl ⟨h8, by rw [List.length_append]; exact h9⟩
     ·exact .inr ⟨g2, cap2, cur2, by rw [List.length_append]; exact h8, Nat.zero_le _, h10, by rw [List.length_append]; exact h11, h12, h13, by rw [List.length_append]; exact h14⟩
    ·unfold Wb ownTags; rw [if_pos hb]; omega
    ·refine c.step ?_ htr.st
     by_cases hj : j < xs.length
     ·rw [List.getElem?_append_left hj] at hz
      have hjs : j * c.size + c.size ≤ xs.length * c.size := by rw [← Nat.succ_mul]; exact Nat.mul_le_mul_right _ hj
      have e : seg (seg cur.toList off (xs.length * c.size) ++ news) (j * c.size) c.size = seg cur.toList (off + j * c.size) c.size := by
       apply List.ext_getElem?
       intro m
       rw [seg_getElem, seg_getElem]
       by_cases hm : m < c.size
       ·rw [if_pos hm, if_pos hm, List.getElem?_append_left (by omega), seg_getElem, if_pos (by omega)]
        congr 1; omega
       ·rw [if_neg hm, if_neg hm]
      rw [e]; exact h7 j z hz
     ·rw [List.getElem?_append_right (by omega)] at hz
      have hjy := (List.getElem?_eq_some_iff.1 hz).1
      have hsum : xs.length * c.size + (j - xs.length) * c.size = j * c.size := by rw [← Nat.add_mul]; congr 1; omega
      have e : seg (seg cur.toList off (xs.length * c.size) ++ news) (j * c.size) c.size = seg news ((j - xs.length) * c.size) c.size := by
       apply List.ext_getElem?
       intro m
       rw [seg_getElem, seg_getElem]
       by_cases hm : m < c.size
       ·rw [if_pos hm, if_pos hm, List.getElem?_append_right (by omega), hol]
        congr 1; omega
       ·rw [if_neg hm, if_neg hm]
      rw [e]; exact hrd _ _ hz
   exact key v' _ w' hrun hOwn.off htr
 rcases src with ⟨rfl, rfl | ⟨a0, cap0, rfl, hc0⟩⟩ | ⟨b, off2, cap2, cur2, t', fr, rfl, g3, g4, g5, g6⟩
 ·refine same ?_ rfl
  simp [Builtin.append_, run_underlying hT, sizeOf, typeInfo, hE, Builtin.lenOf, h4, Builtin.firstCells, loadCells, loadCellsFrom, storeCells]
 ·exact gen a0 cap0 [] rfl (by simp) (fun j u h => by simp at h) (fun u h => by cases h) (fun j x h => by simp at h)
 ·have hlen := cells_of cur2.toList off2 ys g6
  refine gen ⟨b, off2, none⟩ cap2 (seg cur2.toList off2 (ys.length * c.size)) rfl hlen (fun j u hj => ?_) (fun u hu => ?_) (fun j z hz => ?_)
  ·rw [addr_add]
   have := seg_get hj
   simp only [World.cell?, g3]
   simpa using this
  ·obtain ⟨j, hj, rfl⟩ := List.getElem_of_mem hu
   have hjl : j < ys.length * c.size := by rw [hlen] at hj; exact hj
   have hi : j / c.size < ys.length := (Nat.div_lt_iff_lt_mul h0).2 hjl
   have hrd := g6 (j / c.size) ys[j / c.size] (by simp [List.getElem?_eq_getElem hi])
   refine c.one hrd _ ?_
   have hmod := Nat.mod_lt j h0
   have hdm : j / c.size * c.size + j % c.size = j := by rw [Nat.mul_comm]; exact Nat.div_add_mod j c.size
   have h8 := List.getElem?_eq_getElem hj
   refine List.mem_of_getElem? (i := j % c.size) ?_
   rw [seg_getElem] at h8
   rw [if_pos hjl] at h8
   rw [seg_getElem, if_pos hmod, ← h8]
   congr 1; omega
  ·have hjy := (List.getElem?_eq_some_iff.1 hz).1
   have hjs : j * c.size + c.size ≤ ys.length * c.size := by rw [← Nat.succ_mul]; exact Nat.mul_le_mul_right _ hjy
   have e : seg (seg cur2.toList off2 (ys.length * c.size)) (j * c.size) c.size = seg cur2.toList (off2 + j * c.size) c.size := by
    apply List.ext_getElem?
    intro m
    rw [seg_getElem, seg_getElem, seg_getElem]
    by_cases hm : m < c.size
    ·rw [if_pos hm, if_pos (by omega), if_pos hm]
     congr 1; omega
    ·rw [if_neg hm, if_neg hm]
   rw [e]; exact g6 j z hz
theorem Blk.frzEl {g : Nat} {cur : Array Value} {tt : TypeId} {cs : List Value} {x : T} (h : Blk ρ i w g (.cells cur tt (0, 0))) (hc : cur.toList = cs) (rd : c.rd (Wb (frz ρ i)) w cs x) : ElT c (frz ρ i) 0 w g 0 cs x := by
 refine ⟨rd, .inl (by unfold frz; rw [if_pos h.tag]), fun j u hj => ?_⟩
 have := h.get
 simp only [World.cell?, this]
 subst hc
 simpa using hj
theorem ev_notc {x : Operand} {U : TypeId} {a b : Bool} (hx : look l x = some (.bool a)) (h : (!a) = b) : Ev P l (.unOp .not U x) t w (.bool b) := by subst h; exact ev_not hx
end
end Go.KW
