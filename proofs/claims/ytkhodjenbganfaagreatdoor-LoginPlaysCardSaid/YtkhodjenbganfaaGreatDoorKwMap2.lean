/- Maps: the operations. -/
import Derived.Test.YtkhodjenbganfaaGreatDoorKwMap
import Derived.WalkSpells
set_option linter.unusedSectionVars false
set_option linter.unusedVariables false
set_option linter.unusedSimpArgs false
namespace Go.KW
open Go Go.RowKit
open Go.ChangeMaps (setBlock)

section
variable {P : Program} {f : FuncId} {R : Ending → World → Prop} {n : Nat} {kk : List Item} {Qr : Exit → Act → World → Prop} {l : Env} {w : World} {ops : Array Oper} {rest : List Oper} {t : TypeId}
variable {K V : Type} [DecidableEq K] {ek : K → Value} {c : Cdc V} {agg : Bool} {ρ : Tags} {i j : Nat} {v : Value} {m : GMap K V} {U kt et : TypeId}

theorem setBlock_at {g : Nat} {o o' : Obj} (h : w.heap[g]? = some o) : (setBlock w g o').heap[g]? = some o' := by
 have hl := (Array.getElem?_eq_some_iff.1 h).1
 simp [setBlock, hl]
theorem setBlock_other {g b : Nat} {o' : Obj} (h : b ≠ g) : (setBlock w g o').heap[b]? = w.heap[b]? := by
 simp only [setBlock]
 rw [Array.getElem?_setIfInBounds_ne (fun e => h e.symm)]
theorem setBlock_tr {g : Nat} {o' : Obj} (hg : ρ g = i) (hi : 2 ≤ i) (hbd : ∀ b, ρ b ≠ 0 → b < w.heap.size) : Tr ρ w (fun t => t == i) ρ (setBlock w g o') :=
 ⟨fun b _ hj => ⟨setBlock_other fun e => by subst e; simp [hg] at hj, rfl⟩, by simp; omega, by simp; omega, rfl, rfl, rfl, by simp [setBlock], fun b hb => by simpa [setBlock] using hbd b hb⟩

theorem MapT.isNone (h : MapT ek c agg ρ i w v m) : ∃ g, v = .map g ∧ g.isNone = m.isNone := by
 rcases h with ⟨rfl, rfl⟩ | ⟨g, l, es, clock, rfl, rfl, _⟩
 ·exact ⟨none, rfl, rfl⟩
 ·exact ⟨some g, rfl, rfl⟩
theorem MapT.oneCell (h : MapT ek c agg ρ i w v m) : v.oneCell' = true := by
 obtain ⟨g, rfl, _⟩ := h.isNone; rfl
theorem ev_mapNil {x y : Operand} {B : TypeId} {t : TypeId} (h : MapT ek c agg ρ i w v m) (hU : P.underlying U = some (.map kt et)) (w1 : World) (hx : look l x = some v) (hy : look l y = some (.map none)) : Ev P l (.binOp .eql U x y B) t w1 (.bool m.isNone) := by
 obtain ⟨g, rfl, hg⟩ := h.isNone
 intro c n d pos after gd ha
 have h := run_eql_map_nil (P := P) w1 U kt et g hU
 have hgd : (eqGuard .eql U x y (.map g) (.map none)).run P w1 = .ok () w1 := rfl
 simp only [execOp, ha.look hx, ha.look hy, Sem.run_bind, hgd, Result.andThen_ok, h, Sem.run_pure, hg]
theorem ev_mapNe {x y : Operand} {B : TypeId} {t : TypeId} (h : MapT ek c agg ρ i w v m) (hU : P.underlying U = some (.map kt et)) (w1 : World) (hx : look l x = some v) (hy : look l y = some (.map none)) : Ev P l (.binOp .neq U x y B) t w1 (.bool (!m.isNone)) := by
 obtain ⟨g, rfl, hg⟩ := h.isNone
 intro c n d pos after gd ha
 have h := run_neq_map_nil (P := P) w1 U kt et g hU
 have hgd : (eqGuard .neq U x y (.map g) (.map none)).run P w1 = .ok () w1 := rfl
 simp only [execOp, ha.look hx, ha.look hy, Sem.run_bind, hgd, Result.andThen_ok, h, Sem.run_pure, hg]

theorem MapT.getObj {w1 : World} {ρ1 : Tags} {i1 : Nat} (hb : Mv ρ w i ρ1 w1 i1) {g : Nat} {es : Array MapEntry} {clock : Nat} (hg : ρ g = i) (h : w.heap[g]? = some (.map es clock)) : w1.heap[g]? = some (.map es clock) :=
 (hb.own g (Array.getElem?_eq_some_iff.1 h).1 hg).1.trans h
theorem ev_mapLen {x : Operand} {t : TypeId} {w1 : World} {ρ1 : Tags} {i1 : Nat} (h : MapT ek c agg ρ i w v m) (hU : P.underlying U = some (.map kt et)) (hb : Mv ρ w i ρ1 w1 i1) (hx : look l x = some v) :
  Ev P l (.call { callee := .builtin .len, args := #[x], argTypes := #[U] }) t w1 (.int .i64 (mlen m)) := by
 intro d n e pos after gd ha
 rcases h with ⟨rfl, rfl⟩ | ⟨g, l, es, clock, rfl, rfl, h3, h4, h5⟩
 ·simp [execOp, resolve, invoke, builtin, ha.look hx, Builtin.len_, run_underlying hU, goInt, mlen]
 ·have hl := h5.len
  simp only [Array.length_toList] at hl
  simp [execOp, resolve, invoke, builtin, ha.look hx, Builtin.len_, run_underlying hU, goInt, mlen, MapKept.run_getObj_map (MapT.getObj hb h3 h4), hl]

theorem MapT.look {zcs : List Value} {z : V} (h : MapT ek c agg ρ i w v m) (HK : KeyB P kt ek) (hU : P.underlying U = some (.map kt et)) (hz : ∀ w, (zeroValue et).run P w = .ok (vOf agg zcs) w) (hzr : c.rd (Wb ρ) w zcs z) (k : K) :
  ∃ cs, c.rd (Wb ρ) w cs (mgetD m k z) ∧ (∀ {l : Env} {x y : Operand} {t : TypeId} (w1 : World) (ρ1 : Tags) (i1 : Nat), Mv ρ w i ρ1 w1 i1 → KW.look l x = some v → KW.look l y = some (ek k) → Ev P l (.lookup U x y false) t w1 (vOf agg cs)) ∧
   ∀ {l : Env} {x y : Operand} {t : TypeId} (w1 : World) (ρ1 : Tags) (i1 : Nat), Mv ρ w i ρ1 w1 i1 → KW.look l x = some v → KW.look l y = some (ek k) → Ev P l (.lookup U x y true) t w1 (.tuple #[vOf agg cs, .bool (mhas m k)]) := by
 rcases h with ⟨rfl, rfl⟩ | ⟨g, l, es, clock, rfl, rfl, h3, h4, h5⟩
 ·have hf : ∀ w, (Instr.findKey kt (ek k) []).run P w = .ok none w := fun w => by simpa [findAt] using HK.find w k [] [] rfl
  refine ⟨zcs, by simpa [mgetD, mfind] using hzr, fun {l x y t} w1 _ _ _ hx hy a n d pos after gd ha => ?_, fun {l x y t} w1 _ _ _ hx hy a n d pos after gd ha => ?_⟩
  ·simp [execOp, ha.look hx, ha.look hy, Instr.lookup, run_underlying hU, HK.check, hf, hz]
  ·simp [execOp, ha.look hx, ha.look hy, Instr.lookup, run_underlying hU, HK.check, hf, hz, mhas, mfind]
 ·have hf := fun w => HK.find w k es.toList (l.map Prod.fst) (by rw [h5.keys, List.map_map]; rfl)
  rcases findAt_spec (k := k) l es.toList 0 h5.len with ⟨h1, h2, _⟩ | ⟨j, e, p, h1, h2, _, h6, h7, _⟩
  ·refine ⟨zcs, by simpa [mgetD, h2] using hzr, fun {l' x y t} w1 _ _ hb hx hy a n d pos after gd ha => ?_, fun {l' x y t} w1 _ _ hb hx hy a n d pos after gd ha => ?_⟩
   ·simp [execOp, ha.look hx, ha.look hy, Instr.lookup, run_underlying hU, MapKept.run_getObj_map (MapT.getObj hb h3 h4), HK.check, hf, h1, hz]
   ·simp [execOp, ha.look hx, ha.look hy, Instr.lookup, run_underlying hU, MapKept.run_getObj_map (MapT.getObj hb h3 h4), HK.check, hf, h1, hz, mhas, h2]
  ·obtain ⟨cs, h8, h9⟩ := h5.vals j e p h1 h2
   refine ⟨cs, by simpa [mgetD, h7] using h9, fun {l' x y t} w1 _ _ hb hx hy a n d pos after gd ha => ?_, fun {l' x y t} w1 _ _ hb hx hy a n d pos after gd ha => ?_⟩
   ·simp [execOp, ha.look hx, ha.look hy, Instr.lookup, run_underlying hU, MapKept.run_getObj_map (MapT.getObj hb h3 h4), HK.check, hf, h6, h8]
   ·simp [execOp, ha.look hx, ha.look hy, Instr.lookup, run_underlying hU, MapKept.run_getObj_map (MapT.getObj hb h3 h4), HK.check, hf, h6, h8, mhas, h7]

theorem MapT.upd {k : K} {x : V} {u : Value} {cs : List Value} (h : MapT ek c agg ρ i w v m) (hm : m.isSome = true) (HK : KeyB P kt ek) (hU : P.underlying U = some (.map kt et)) (hi : 2 ≤ i) (hbd : ∀ b, ρ b ≠ 0 → b < w.heap.size)
  (hu : u = vOf agg cs) (hr : c.rd (Wb ρ) w cs x) :
  ∃ w', (Instr.mapUpdate U v (ek k) u).run P w = .ok () w' ∧ MapT ek c agg ρ i w' v (mput m k x) ∧ Tr ρ w (fun t => t == i) ρ w' := by
 rcases h with ⟨rfl, rfl⟩ | ⟨g, l, es, clock, rfl, rfl, h3, h4, h5⟩
 ·cases hm
 have hf := HK.find w k es.toList (l.map Prod.fst) (by rw [h5.keys, List.map_map]; rfl)
 rcases h5.put (k := k) hu hr with ⟨h1, h6⟩ | ⟨j, e, h1, h7, h8, h6⟩
 ·have htr : Tr ρ w (fun t => t == i) ρ (setBlock w g (.map (es.push ⟨ek k, u, clock⟩) (clock + 1))) := setBlock_tr h3 hi hbd
  refine ⟨_, ?_, .inr ⟨g, _, es.push ⟨ek k, u, clock⟩, clock + 1, rfl, rfl, h3, setBlock_at h4, ?_⟩, htr⟩
  ·simp [Instr.mapUpdate, run_underlying hU, MapKept.run_getObj_map h4, HK.check, hf, h1, MapKept.run_setObj_map _ h4, Result.andThen, setBlock]
  ·rw [Array.toList_push]; exact h6.step htr.st
 ·have hj : es[j]? = some e := by simpa using h7
  have htr : Tr ρ w (fun t => t == i) ρ (setBlock w g (.map (es.modify j fun e => { e with key := ek k, val := u }) clock)) := setBlock_tr h3 hi hbd
  refine ⟨_, ?_, .inr ⟨g, _, es.modify j fun e => { e with key := ek k, val := u }, clock, rfl, rfl, h3, setBlock_at h4, ?_⟩, htr⟩
  ·simp [Instr.mapUpdate, run_underlying hU, MapKept.run_getObj_map h4, HK.check, hf, h1, hj, h8, HK.stays, MapKept.run_setObj_map _ h4, Result.andThen, setBlock]
  ·rw [Array.toList_modify, ChangeMaps.modify_eq_set _ _ _ _ h7]; exact h6.step htr.st
theorem sr_mapPut {x y z : Operand} {k : K} {d : V} {u : Value} {cs : List Value} {pos : String} {after : Array Edge} (h : MapT ek c agg ρ i w v m) (hm : m.isSome = true) (HK : KeyB P kt ek) (hU : P.underlying U = some (.map kt et)) (hi : 2 ≤ i) (hbd : ∀ b, ρ b ≠ 0 → b < w.heap.size)
  (hu : u = vOf agg cs) (hr : c.rd (Wb ρ) w cs d) (hx : look l x = some v) (hy : look l y = some (ek k)) (hz : look l z = some u)
  (hk : ∀ w', MapT ek c agg ρ i w' v (mput m k d) → Tr ρ w (fun t => t == i) ρ w' → SR P Qr n ops rest l w') :
  SR P Qr n ops (⟨none, .mapUpdate U x y z, t, pos, after, none⟩ :: rest) l w := by
 obtain ⟨w', h1, h2, h3⟩ := h.upd (k := k) hm HK hU hi hbd hu hr
 intro a ha
 have hr : (execOp a.eval ⟨none, .mapUpdate U x y z, t, pos, after, none⟩).run P w = .ok .skip w' := by
  simp [execOp, ha.look hx, ha.look hy, ha.look hz, h1]
 simp only [wpList, wanted_none, if_true, Oper.wp, hr, Oper.upon_skip]
 exact .inl (hk w' h2 h3 _ (ha.put_none _))
theorem MapT.drop {k : K} {ty : TypeId} (h : MapT ek c agg ρ i w v m) (HK : KeyB P kt ek) (hU : P.underlying U = some (.map kt et)) (hi : 2 ≤ i) (hbd : ∀ b, ρ b ≠ 0 → b < w.heap.size) :
  ∃ w', (Builtin.delete_ #[U, kt] ty #[v, ek k]).run P w = .ok (.tuple #[]) w' ∧ MapT ek c agg ρ i w' v (mdel m k) ∧ Tr ρ w (fun t => t == i) ρ w' := by
 rcases h with ⟨rfl, rfl⟩ | ⟨g, l, es, clock, rfl, rfl, h3, h4, h5⟩
 ·refine ⟨w, ?_, .inl ⟨rfl, rfl⟩, (Tr.refl hbd).weak (fun _ _ => rfl) (by simp; omega) (by simp; omega)⟩
  simp [Builtin.delete_, run_underlying hU, HK.check]
 have hf := HK.find w k es.toList (l.map Prod.fst) (by rw [h5.keys, List.map_map]; rfl)
 rcases h5.del k with ⟨h1, h6⟩ | ⟨j, e, h1, h7, h6⟩
 ·have htr : Tr ρ w (fun t => t == i) ρ (setBlock w g (.map es clock)) := setBlock_tr h3 hi hbd
  refine ⟨_, ?_, .inr ⟨g, _, es, clock, rfl, rfl, h3, setBlock_at h4, ?_⟩, htr⟩
  ·simp [Builtin.delete_, run_underlying hU, MapKept.run_getObj_map h4, HK.check, hf, h1, MapKept.run_setObj_map _ h4, Result.andThen, setBlock]
  ·rw [h6]; exact h5.step htr.st
 ·have hjs : j < es.size := by simpa using (List.getElem?_eq_some_iff.1 h7).1
  have hsub : (es.eraseIdxIfInBounds j).toList = es.toList.eraseIdx j := by
   unfold Array.eraseIdxIfInBounds
   rw [dif_pos hjs]
   simp
  have htr : Tr ρ w (fun t => t == i) ρ (setBlock w g (.map (es.eraseIdxIfInBounds j) clock)) := setBlock_tr h3 hi hbd
  refine ⟨_, ?_, .inr ⟨g, _, es.eraseIdxIfInBounds j, clock, rfl, rfl, h3, setBlock_at h4, ?_⟩, htr⟩
  ·simp [Builtin.delete_, run_underlying hU, MapKept.run_getObj_map h4, HK.check, hf, h1, MapKept.run_setObj_map _ h4, Result.andThen, setBlock]
  ·rw [hsub]; exact h6.step htr.st
theorem sr_mapDel0 {x y : Operand} {k : K} {pos : String} {after : Array Edge} (h : MapT ek c agg ρ i w v m) (HK : KeyB P kt ek) (hU : P.underlying U = some (.map kt et)) (hi : 2 ≤ i) (hbd : ∀ b, ρ b ≠ 0 → b < w.heap.size)
  (hx : look l x = some v) (hy : look l y = some (ek k))
  (hk : ∀ w', MapT ek c agg ρ i w' v (mdel m k) → Tr ρ w (fun t => t == i) ρ w' → SR P Qr n ops rest l w') :
  SR P Qr n ops (⟨none, .call { callee := .builtin .delete, args := #[x, y], argTypes := #[U, kt] }, t, pos, after, none⟩ :: rest) l w := by
 obtain ⟨w', h1, h2, h3⟩ := h.drop (k := k) (ty := t) HK hU hi hbd
 intro a ha
 refine wpl_of_run wanted_none (v := .tuple #[]) (w' := w') ?_ (hk w' h2 h3 _ (ha.put_none _))
 simp [execOp, resolve, invoke, builtin, ha.look hx, ha.look hy, h1]
theorem sr_run0 {o : Op} {pos : String} {after : Array Edge} {u : Value} {w' : World} (h : ∀ a : Act, At n l a → (execOp a.eval ⟨none, o, t, pos, after, none⟩).run P w = .ok (.value u) w') (hk : SR P Qr n ops rest l w') :
  SR P Qr n ops (⟨none, o, t, pos, after, none⟩ :: rest) l w := fun a ha => wpl_of_run wanted_none (h a ha) (hk _ (ha.put_none _))

theorem sr_makeMap {d : Nat} {r : Option Operand} {pos : String} {after : Array Edge} (i : Nat) (hi : 2 ≤ i) (hbd : ∀ b, ρ b ≠ 0 → b < w.heap.size) (hr : r = none) (hd : d < n)
  (hk : ∀ g ρ' w', MapT ek c agg ρ' i w' (.map (some g)) (some ([] : List (K × V))) → Tr ρ w (fun t => t == i) ρ' w' → SR P Qr n ops rest (l.put d (.map (some g))) w') :
  SR P Qr n ops (⟨some d, .makeMap U r, t, pos, after, none⟩ :: rest) l w := by
 subst hr
 obtain ⟨h1, h2⟩ := new_blk (.map #[] 0) hi hbd
 intro a ha
 refine wpl_of_run wanted_none (v := .map (some w.heap.size)) (w' := w.alloc (.map #[] 0)) ?_ (hk _ _ _ (.inr ⟨w.heap.size, [], #[], 0, rfl, rfl, h1.tag, h1.get, ⟨rfl, List.nodup_nil, List.nodup_nil, (fun _ h => by cases h), (fun _ _ _ h => by simp at h)⟩⟩) h2 _ (ha.put _ hd))
 simp [execOp, Instr.makeMap, newObj]
 rfl
end
end Go.KW
