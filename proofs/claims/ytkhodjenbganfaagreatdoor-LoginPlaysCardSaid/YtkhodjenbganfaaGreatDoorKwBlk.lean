/- Blocks of the function's own whose content is known: local structs and arrays, boxes. -/
import Derived.Test.YtkhodjenbganfaaGreatDoorKwOwn
namespace Go.KW
open Go Go.RowKit

structure Hp (A : Nat → Prop) (B : Nat) (w : World) (L : List (Nat × Obj)) : Prop where
 nodup : (L.map Prod.fst).Nodup
 get : ∀ p ∈ L, A p.1 ∧ w.heap[p.1]? = some p.2
 base : ∀ p ∈ L, B ≤ p.1

section
variable {A A' : Nat → Prop} {B : Nat} {w w' : World} {L : List (Nat × Obj)} {i : Nat} {g : Nat} {o : Obj}
theorem Hp.nil (A : Nat → Prop) (B : Nat) (w : World) : Hp A B w [] := ⟨List.nodup_nil, (fun _ h => by cases h), (fun _ h => by cases h)⟩
theorem Hp.at (h : Hp A B w L) (hi : L[i]? = some (g, o)) : A g ∧ w.heap[g]? = some o := h.get _ (List.mem_of_getElem? hi)
theorem Hp.lt (h : Hp A B w L) {p : Nat × Obj} (hp : p ∈ L) : p.1 < w.heap.size := (Array.getElem?_eq_some_iff.1 (h.get p hp).2).1
theorem Hp.below (h : Hp A B w L) (s : Below w.heap.size w w') : Hp A B w' L :=
 ⟨h.nodup, fun p hp => ⟨(h.get p hp).1, (s.block _ (h.lt hp)).trans (h.get p hp).2⟩, h.base⟩
theorem Hp.mono (h : Hp A B w L) (s : ∀ b, A b → A' b) : Hp A' B w L := ⟨h.nodup, fun p hp => ⟨s _ (h.get p hp).1, (h.get p hp).2⟩, h.base⟩
theorem Hp.keep (h : Hp A B w L) (ha : ∀ b, A b → A' b) (hk : ∀ p ∈ L, w'.heap[p.1]? = w.heap[p.1]?) : Hp A' B w' L :=
 ⟨h.nodup, fun p hp => ⟨ha _ (h.get p hp).1, (hk p hp).trans (h.get p hp).2⟩, h.base⟩
theorem Hp.push (h : Hp A B w L) (hb : Below w.heap.size w w') (hg : w.heap.size ≤ g) (hB : B ≤ w.heap.size) (ho : w'.heap[g]? = some o) : Hp (fun b => A b ∨ b = g) B w' ((g, o) :: L) := by
 refine ⟨?_, fun p hp => ?_, fun p hp => ?_⟩
 ·simp only [List.map_cons, List.nodup_cons]
  refine ⟨fun hm => ?_, h.nodup⟩
  obtain ⟨p, hp, e⟩ := List.mem_map.1 hm
  have := h.lt hp; omega
 ·rcases List.mem_cons.1 hp with rfl | hp
  ·exact ⟨.inr rfl, ho⟩
  ·exact ⟨.inl (h.get p hp).1, (hb.block _ (h.lt hp)).trans (h.get p hp).2⟩
 ·rcases List.mem_cons.1 hp with rfl | hp
  ·exact Nat.le_trans hB hg
  ·exact h.base p hp
theorem Hp.sub {L' : List (Nat × Obj)} (h : Hp A B w L) (s : L'.Sublist L) : Hp A B w L' :=
 ⟨h.nodup.sublist (s.map _), fun p hp => h.get p (s.subset hp), fun p hp => h.base p (s.subset hp)⟩
theorem Hp.set (h : Hp A B w L) (hi : L[i]? = some (g, o)) {o' : Obj} (hn : w'.heap[g]? = some o') (hk : ∀ b, b ≠ g → w'.heap[b]? = w.heap[b]?) : Hp A B w' (L.set i (g, o')) := by
 have hlt := (List.getElem?_eq_some_iff.1 hi).1
 have hm : (L.set i (g, o')).map Prod.fst = L.map Prod.fst := by
  rw [List.map_set]
  apply List.ext_getElem?
  intro j
  by_cases e : i = j
  ·subst e
   rw [List.getElem?_set_self (by simpa using hlt), List.getElem?_map, hi]
   rfl
  ·rw [List.getElem?_set_ne e]
 refine ⟨by rw [hm]; exact h.nodup, fun p hp => ?_, fun p hp => ?_⟩
 rotate_left
 ·have hp' : p.1 ∈ (L.set i (g, o')).map Prod.fst := List.mem_map.2 ⟨p, hp, rfl⟩
  rw [hm] at hp'
  obtain ⟨q, hq, e⟩ := List.mem_map.1 hp'
  rw [← e]; exact h.base q hq
 obtain ⟨j, hj⟩ := List.mem_iff_getElem?.1 hp
 by_cases e : i = j
 ·subst e
  rw [List.getElem?_set_self hlt] at hj
  cases hj
  exact ⟨(h.at hi).1, hn⟩
 ·rw [List.getElem?_set_ne e] at hj
  have h1 := h.at (i := j) (g := p.1) (o := p.2) hj
  refine ⟨h1.1, (hk _ fun he => e ?_).trans h1.2⟩
  -- two places with one key are one
  have hj' := (List.getElem?_eq_some_iff.1 hj).1
  have k1 : (L.map Prod.fst)[i]? = some g := by rw [List.getElem?_map, hi]; rfl
  have k2 : (L.map Prod.fst)[j]? = some g := by rw [List.getElem?_map, hj]; simp [he]
  have l1 : i < (L.map Prod.fst).length := by simpa using hlt
  have l2 : j < (L.map Prod.fst).length := by simpa using hj'
  rw [List.getElem?_eq_getElem l1] at k1
  rw [List.getElem?_eq_getElem l2] at k2
  have hp := List.pairwise_iff_getElem.1 h.nodup
  have heq := (Option.some.inj k1).trans (Option.some.inj k2).symm
  rcases Nat.lt_trichotomy i j with hij | hij | hij
  ·exact absurd heq (hp i j l1 l2 hij)
  ·exact hij
  ·exact absurd heq.symm (hp j i l2 l1 hij)
theorem Hp.cell (h : Hp A B w L) {cs : Array Value} {t : TypeId} {fr : Nat × Nat} (hi : L[i]? = some (g, .cells cs t fr)) {q : Nat} {u : Value} (hu : cs[q]? = some u) : w.cell? ⟨g, q, none⟩ = some u := by
 have := (h.at hi).2
 simp only [World.cell?, this]
 simpa using hu
end

section
variable {P : Program} {f : FuncId} {R : Ending → World → Prop} {n : Nat} {k : List Item} {Qr : Exit → Act → World → Prop} {l : Env} {w : World} {ops : Array Oper} {rest : List Oper} {t : TypeId}
variable {A : Nat → Prop} {B : Nat} {L : List (Nat × Obj)}

theorem new_block (o : Obj) (hH : Hp A B w L) (hB : B ≤ w.heap.size) (hlt : ∀ b, A b → b < w.heap.size) :
  Hp (fun b => A b ∨ b = w.heap.size) B (w.alloc o) ((w.heap.size, o) :: L) ∧ St A w (fun b => A b ∨ b = w.heap.size) (w.alloc o) ∧ (∀ b, (A b ∨ b = w.heap.size) → b < (w.alloc o).heap.size) := by
 have hb := below_alloc w o
 refine ⟨hH.push hb (Nat.le_refl _) hB (alloc_new w o), ⟨fun b h _ => hb.block b h, hb.size, fun b h => h.imp id fun h => by omega⟩, fun b h => ?_⟩
 rcases h with h | h
 ·have := hlt b h; simp; omega
 ·subst h; simp

theorem sr_box {d : Nat} {x : Operand} {U : TypeId} {v : Value} {pos : String} {after : Array Edge} (hH : Hp A B w L) (hB : B ≤ w.heap.size) (hlt : ∀ b, A b → b < w.heap.size) (hx : look l x = some v) (hd : d < n)
  (hk : ∀ g A' w', Hp A' B w' ((g, .cells v.cells U (0, 0)) :: L) → St A w A' w' → Below w.heap.size w w' → (∀ b, A b → A' b) → (∀ b, A' b → b < w'.heap.size) → w.heap.size ≤ g → SR P Qr n ops rest (l.put d (.pointer (some ⟨g, 0, none⟩))) w') :
  SR P Qr n ops (⟨some d, .box U x, t, pos, after, none⟩ :: rest) l w := by
 obtain ⟨h1, h2, h3⟩ := new_block (.cells v.cells U) hH hB hlt
 intro a ha
 refine wpl_of_run wanted_none (v := .pointer (some ⟨w.heap.size, 0, none⟩)) (w' := w.alloc (.cells v.cells U)) ?_ (hk _ _ _ h1 h2 (below_alloc w _) (fun _ h => .inl h) h3 (Nat.le_refl _) _ (ha.put _ hd))
 simp [execOp, ha.look hx, Instr.box, newVar, newRow]
theorem sr_alloc {d : Nat} {U : TypeId} {z : Value} {pos : String} {after : Array Edge} (hH : Hp A B w L) (hB : B ≤ w.heap.size) (hlt : ∀ b, A b → b < w.heap.size) (hz : ∀ w, (zeroValue U).run P w = .ok z w) (hd : d < n)
  (hk : ∀ g A' w', Hp A' B w' ((g, .cells z.cells U (0, 0)) :: L) → St A w A' w' → Below w.heap.size w w' → (∀ b, A b → A' b) → (∀ b, A' b → b < w'.heap.size) → w.heap.size ≤ g → SR P Qr n ops rest (l.put d (.pointer (some ⟨g, 0, none⟩))) w') :
  SR P Qr n ops (⟨some d, .alloc U, t, pos, after, none⟩ :: rest) l w := by
 obtain ⟨h1, h2, h3⟩ := new_block (.cells z.cells U) hH hB hlt
 intro a ha
 refine wpl_of_run wanted_none (v := .pointer (some ⟨w.heap.size, 0, none⟩)) (w' := w.alloc (.cells z.cells U)) ?_ (hk _ _ _ h1 h2 (below_alloc w _) (fun _ h => .inl h) h3 (Nat.le_refl _) _ (ha.put _ hd))
 simp [execOp, Instr.alloc, hz, newVar, newRow]

structure Wr (A : Nat → Prop) (w w' : World) (g : Nat) : Prop where
 st : St A w A w'
 os : w'.os = w.os
 tape : w'.tape = w.tape
 output : w'.output = w.output
 size : w'.heap.size = w.heap.size
 other : ∀ b, b ≠ g → w'.heap[b]? = w.heap[b]?
theorem Wr.below {A : Nat → Prop} {w w' : World} {g B : Nat} {w0 : World} (h : Wr A w w' g) (hb : Below B w0 w) (hg : B ≤ g) : Below B w0 w' :=
 hb.trans ⟨h.os, h.tape, h.output, by rw [h.size]; exact Nat.le_refl _, fun k hk => h.other k (by omega)⟩
theorem Wr.lt {A : Nat → Prop} {w w' : World} {g : Nat} (h : Wr A w w' g) (hlt : ∀ b, A b → b < w.heap.size) : ∀ b, A b → b < w'.heap.size := fun b hb => by rw [h.size]; exact hlt b hb

theorem wr_setRow {g : Nat} {cs : Array Value} (hA : A g) : Wr A w (w.setRow g cs) g :=
 ⟨⟨fun b _ hna => setRow_other w g b cs fun e => hna (e ▸ hA), by simp, fun b h => .inl h⟩, rfl, rfl, rfl, by simp, fun b hb => setRow_other w g b cs hb⟩

theorem sr_store {x y : Operand} {U : TypeId} {i g o : Nat} {cur cs' : Array Value} {tt : TypeId} {v : Value} {vs : List Value} {pos : String} {after : Array Edge} (hH : Hp A B w L) (hi : L[i]? = some (g, .cells cur tt (0, 0)))
  (hx : look l x = some (.pointer (some ⟨g, o, none⟩))) (hy : look l y = some v) (hv : v.cells.toList = vs) (hz : ∀ w, (sizeOf U).run P w = .ok vs.length w) (hle : (o + vs.length).ble cur.size = true)
  (h1 : vs.all (fun u => u.oneCell') = true) (hcs : cur.toList.take o ++ vs ++ cur.toList.drop (o + vs.length) = cs'.toList)
  (hk : ∀ w', Hp A B w' (L.set i (g, .cells cs' tt (0, 0))) → Wr A w w' g → SR P Qr n ops rest l w') :
  SR P Qr n ops (⟨none, .store U x y, t, pos, after, none⟩ :: rest) l w := by
 intro a ha
 have hg := (hH.at hi).2
 have hrun := run_storeCells_at P g o tt vs 0 cur w hg (by simpa using Nat.le_of_ble_eq_true hle) (fun u hu => List.all_eq_true.1 h1 u hu)
 simp only [Nat.add_zero] at hrun
 rw [hcs] at hrun
 have hsz : v.cells.size = vs.length := by rw [← hv]; simp
 have hr : (execOp a.eval ⟨none, .store U x y, t, pos, after, none⟩).run P w = .ok .skip (w.setRow g cs') := by
  simp only [execOp, ha.look hx, ha.look hy, Instr.storeAt, Instr.sureAddr, storeVar, Sem.run_bind, Sem.run_pure, Result.andThen_ok, hz, hsz, ne_eq, not_true_eq_false, if_false, hv]
  rw [hrun]
  rfl
 simp only [wpList, wanted_none, if_true, Oper.wp, hr, Oper.upon_skip]
 exact .inl (hk _ (hH.set hi (setRow_heap w g cur cs' tt (0, 0) hg) fun b hb => setRow_other w g b cs' hb) (wr_setRow (hH.at hi).1) _ (ha.put_none _))
theorem cell_below {w' : World} {a : Addr} {u : Value} (h : w.cell? a = some u) (s : Below w.heap.size w w') : w'.cell? a = some u := (s.cell (World.block_lt_of_cell? w a h)).trans h
theorem ElR.step {T : Type} {c : Cdc T} {A' : Nat → Prop} {w' : World} {b o : Nat} {cs : List Value} {x : T} (h : ElR c A w b o cs x) (s : St A w A' w') (h0 : 0 < cs.length) : ElR c A' w' b o cs x := by
 have hlt : b < w.heap.size := World.block_lt_of_cell? w (a := ⟨b, o + 0, none⟩) (h.cell 0 cs[0] (List.getElem?_eq_getElem h0))
 refine ⟨c.step h.rd s, fun ha => ?_, fun j u hj => ?_⟩
 ·rcases s.av b ha with h' | h'
  ·exact h.av h'
  ·omega
 ·rw [← h.cell j u hj]
  exact World.cell?_of_block (w := w) (s.same b hlt h.av)
theorem lt_mono {w' : World} (hA : ∀ b, A b → b < w.heap.size) (h : w.heap.size ≤ w'.heap.size) : ∀ b, A b → b < w'.heap.size := fun b hb => Nat.lt_of_lt_of_le (hA b hb) h
def Dj (v : Value) (L : List (Nat × Obj)) : Prop := ∀ p ∈ L, v.ownBlock ≠ some p.1
theorem Dj.nil (L : List (Nat × Obj)) : Dj (.slice none 0 0) L := fun _ _ h => by simp [Value.ownBlock] at h
theorem Dj.none (v : Value) : Dj v [] := fun _ h => by cases h
theorem Dj.cons {T : Type} {c : Cdc T} {E : TypeId} {v : Value} {xs : List T} {g : Nat} {o : Obj} (h : Dj v L) (ho : OwnS c E A B w v xs) (hg : w.heap.size ≤ g) : Dj v ((g, o) :: L) := by
 intro p hp e
 rcases List.mem_cons.1 hp with rfl | hp
 ·have := (ho.lt _ e).2; simp at this; omega
 ·exact h p hp e
theorem Dj.set {v : Value} {i g : Nat} {o o' : Obj} (h : Dj v L) (hi : L[i]? = some (g, o)) : Dj v (L.set i (g, o')) := by
 intro p hp e
 rcases List.mem_or_eq_of_mem_set hp with hp | rfl
 ·exact h p hp e
 ·exact h (g, o) (List.mem_of_getElem? hi) e
theorem Dj.sub {v : Value} {L' : List (Nat × Obj)} (h : Dj v L) (s : L'.Sublist L) : Dj v L' := fun p hp => h p (s.subset hp)

def RV (P : Program) (l : Env) (w : World) : ResultVar → Value → Prop
 | .tmp t, v => l.get t = some v
 | .cell a t, v => ∃ p, l.get a = some (.pointer (some p)) ∧ (loadVar t p).run P w = .ok v w
def RVs (P : Program) (l : Env) (w : World) : List ResultVar → List Value → Prop
 | [], [] => True
 | r :: rs, v :: vs => RV P l w r v ∧ RVs P l w rs vs
 | _, _ => False
def getR (a : Act) : ResultVar → Sem Value
 | .tmp t => pure (a.tmps.getD t undef)
 | .cell x t => do loadVar t (← asAddr (a.tmps.getD x undef))
theorem rvs_run {a : Act} (ha : At n l a) : ∀ {rs : List ResultVar} {vs : List Value}, RVs P l w rs vs → (rs.mapM (getR a)).run P w = .ok vs w
 | [], [], _ => rfl
 | [], _ :: _, h => h.elim
 | _ :: _, [], h => h.elim
 | r :: rs, v :: vs, h => by
  have ih := rvs_run ha h.2
  have h0 : (getR a r).run P w = .ok v w := by
   cases r with
   | tmp t =>
    have h1 := ha.has t v h.1
    simp [getR, h1]
   | cell x t =>
    obtain ⟨p, hp, hl⟩ := h.1
    have h1 := ha.has x _ hp
    simp [getR, h1, asAddr, hl]
  simp only [List.mapM_cons, Sem.run_bind, h0, Result.andThen_ok, ih, Sem.run_pure]
theorem ke_ret {fn : Func} {rs : List ResultVar} {vs : List Value} {v : Value} (hf : P.funcs[f]? = some fn) (hn : fn.results = rs.toArray) (hr : RVs P l w rs vs) (hv : (if h : vs.toArray.size = 1 then vs.toArray[0] else .tuple vs.toArray) = v)
  (hR : R (.returned v) w) : KE P f R n (.code .ret :: k) l w := by
 intro a ha
 refine kwp_ret hf ha.defers ?_ hR
 have h1 := rvs_run (P := P) ha hr
 have h2 : (results fn a.tmps).run P w = ((rs.toArray.mapM (getR a)) >>= fun vs => pure (if h : vs.size = 1 then vs[0] else .tuple vs) : Sem Value).run P w := by
  unfold results
  rw [hn]
  rfl
 rw [h2]
 simp only [Sem.run_bind, List.mapM_toArray, Sem.run_map, h1, Result.andThen_ok, Sem.run_pure, hv]
theorem run_loadVar_s {U : TypeId} {b o : Nat} {cs : List Value} (hT : ∀ w, (isAgg U).run P w = .ok true w) (hz : ∀ w, (sizeOf U).run P w = .ok cs.length w)
  (hc : ∀ j u, cs[j]? = some u → w.cell? ⟨b, o + j, none⟩ = some u) : (loadVar U ⟨b, o, none⟩).run P w = .ok (.agg cs.toArray) w := by
 have h := run_loadCells_list (P := P) w ⟨b, o, none⟩ cs (fun j u hj => by rw [addr_add]; exact hc j u hj)
 simp [loadVar, hT, hz, h]
theorem Hp.cells (h : Hp A B w L) {i g o : Nat} {cs : Array Value} {t : TypeId} {fr : Nat × Nat} (hi : L[i]? = some (g, .cells cs t fr)) {vs : List Value} (hs : seg cs.toList o vs.length = vs) :
  ∀ j u, vs[j]? = some u → w.cell? ⟨g, o + j, none⟩ = some u := by
 intro j u hj
 rw [← hs] at hj
 have := seg_get hj
 exact h.cell hi (by simpa using this)
end
end Go.KW
