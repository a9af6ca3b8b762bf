/- Arrays of the function's own, tables, regions that draw their order, equality of structs, bytes of a string. -/
import Derived.Test.YtkhodjenbganfaaGreatDoorKwBlk
namespace Go.KW
open Go Go.RowKit

def setAt {T : Type} (xs : List T) (i : Int) (x : T) : List T := xs.set i.toNat x

section
variable {P : Program} {f : FuncId} {R : Ending → World → Prop} {n : Nat} {k : List Item} {Qr : Exit → Act → World → Prop} {l : Env} {w : World} {ops : Array Oper} {rest : List Oper} {t : TypeId}
variable {A : Nat → Prop} {B : Nat} {L : List (Nat × Obj)}

theorem ev_arrindex {x y : Operand} {U E : TypeId} {m : Nat} {g o : Nat} {kk : IntKind} {i : Int} {ti : TypeInfo} (hT : P.underlying U = some (.array m E)) (hE : P.info? E = some ti) (hs : ti.size = 1)
  (hx : look l x = some (.pointer (some ⟨g, o, none⟩))) (hy : look l y = some (.int kk i)) (hb : inb i m = true) : Ev P l (.indexAddr U x y) t w (.pointer (some ⟨g, o + i.toNat * 1, none⟩)) := by
 intro d n e pos after gd ha
 have hi := inb_iff.1 hb
 simp [execOp, ha.look hx, ha.look hy, Instr.indexAt, asIntOf, run_underlying hT, Instr.sureAddr, hi, sizeOf_of hE, hs, addr_add]
theorem ev_arrslice {x : Operand} {U E : TypeId} {m g : Nat} {ti : TypeInfo} (hT : P.underlying U = some (.array m E)) (hE : P.info? E = some ti) (hx : look l x = some (.pointer (some ⟨g, 0, none⟩))) :
  Ev P l (.slice U x none none none) t w (.slice (some ⟨g, 0, none⟩) m m) := by
 intro d n e pos after gd ha
 simp [execOp, ha.look hx, Instr.sliceAt, run_underlying hT, Instr.sureAddr, Instr.sliceBounds, sizeOf_of hE, Addr.add]
theorem arr_sl {enc : Int → Value} {kk : IntKind} (he : enc = Value.int kk) {j g m cap : Nat} {xs : List Int} {ex : List Value} {tt : TypeId} {fr : Nat × Nat} (h : Hp A B w L) (hj : L[j]? = some (g, .cells (xs.map enc ++ ex).toArray tt fr))
  (hm : xs.length = m) (hc : m ≤ cap) (hmx : cap ≤ maxLen) : SlR (intC kk) (fun _ => False) w (.slice (some ⟨g, 0, none⟩) m cap) xs := by
 subst he
 refine .inr ⟨g, 0, cap, _, tt, fr, by rw [hm], id, (h.at hj).2, by omega, hmx, fun i x hx => ?_⟩
 have hlt := (List.getElem?_eq_some_iff.1 hx).1
 show seg _ _ 1 = [Value.int kk x]
 unfold seg
 simp only [intC, Cdc.flat, Nat.mul_one, Nat.zero_add]
 rw [List.drop_append_of_le_length (by simp; omega), List.take_append_of_le_length (by simp; omega), ← List.map_drop, ← List.map_take]
 have : (xs.drop i).take 1 = [x] := by
  rw [List.drop_eq_getElem_cons hlt]
  have := (List.getElem?_eq_some_iff.1 hx).2
  simp [this]
 rw [this]; rfl
theorem ev_arr2s {x : Operand} {U V E : TypeId} {j g m : Nat} {xs : List Int} {tt : TypeId} {fr : Nat × Nat} (h : Hp A B w L) (hj : L[j]? = some (g, .cells (xs.map (Value.int .u8)).toArray tt fr)) (hm : xs.length = m) (hmx : m.ble 1000000 = true)
  (hs : P.underlying U = some (.slice E)) (he : P.underlying E = some (.int .u8)) (hd : P.underlying V = some .string)
  (hx : look l x = some (.slice (some ⟨g, 0, none⟩) m m)) : Ev P l (.convert U V x) t w (str (bytesStr xs)) := by
 have hle := Nat.le_of_ble_eq_true hmx
 have h0 : L[j]? = some (g, .cells (xs.map (Value.int .u8) ++ []).toArray tt fr) := by simpa using hj
 exact ev_b2s (arr_sl rfl h h0 hm (Nat.le_refl _) (by simp only [maxLen]; omega)) hs he hd hx

def rowObj (enc : Int → Value) (xs : List Int) (ex : List Value) (t : TypeId) : Obj := .cells (xs.map enc ++ ex).toArray t (xs.length + ex.length, xs.length + ex.length + 1)
def RwV (v : Value) (g m : Nat) : Prop := ∃ cap, v = .slice (some ⟨g, 0, none⟩) m cap ∧ m ≤ cap ∧ cap ≤ maxLen
def strBytes (s : Str) : List Int := s.map fun u => (u.toNat : Int)
theorem RwV.set {v : Value} {g : Nat} {xs : List Int} {i u : Int} (h : RwV v g xs.length) : RwV v g (setAt xs i u).length := by simpa [setAt] using h
theorem sr_s2b {d : Nat} {x : Operand} {U V E : TypeId} {s : Str} {pos : String} {after : Array Edge} (hH : Hp A B w L) (hB : B ≤ w.heap.size) (hlt : ∀ b, A b → b < w.heap.size)
  (hs : P.underlying U = some .string) (hd : P.underlying V = some (.slice E)) (he : P.underlying E = some (.int .u8)) (hf : fitS s [] = true) (hx : look l x = some (str s)) (hdn : d < n)
  (hk : ∀ g v ex A' w', Hp A' B w' ((g, rowObj (Value.int .u8) (strBytes s) ex E) :: L) → RwV v g (strBytes s).length → St A w A' w' → Below w.heap.size w w' → (∀ b, A b → A' b) → (∀ b, A' b → b < w'.heap.size) → w.heap.size ≤ g → SR P Qr n ops rest (l.put d v) w') :
  SR P Qr n ops (⟨some d, .convert U V x, t, pos, after, none⟩ :: rest) l w := by
 have hfit := of_decide_eq_true hf
 have hrun := run_bytes_of_string (P := P) w U V E ⟨s.toArray⟩ hs hd he
 have hsz : (⟨s.toArray⟩ : ByteArray).size = s.length := str_size s
 have hge := grownCap_ge w (⟨s.toArray⟩ : ByteArray).size 0 E
 have hle := grownCap_le_maxLen w (⟨s.toArray⟩ : ByteArray).size 0 E (by rw [hsz]; simp only [maxLen]; simp at hfit; omega)
 generalize grownCap w (⟨s.toArray⟩ : ByteArray).size 0 E = cap at *
 have hrow : bytesRow ⟨s.toArray⟩ cap = ((strBytes s).map (Value.int .u8) ++ List.replicate (cap - s.length) (Value.int .u8 0)).toArray := by
  apply Array.toList_inj.1
  simp [bytesRow, strBytes, hsz]
 have hobj : Obj.cells (bytesRow ⟨s.toArray⟩ cap) E ((bytesRow ⟨s.toArray⟩ cap).size, (bytesRow ⟨s.toArray⟩ cap).size + 1) = rowObj (Value.int .u8) (strBytes s) (List.replicate (cap - s.length) (Value.int .u8 0)) E := by
  rw [hrow]; simp [rowObj, strBytes]
 rw [hobj] at hrun
 have hH' : Hp A B w.drew L := hH.below (Below.refl _ _).drew
 obtain ⟨h1, h2, h3⟩ := new_block (w := w.drew) (rowObj (Value.int .u8) (strBytes s) (List.replicate (cap - s.length) (Value.int .u8 0)) E) hH' hB hlt
 intro a ha
 refine wpl_of_run wanted_none (v := .slice (some ⟨w.heap.size, 0, none⟩) s.length cap) (w' := w.drew.alloc (rowObj (Value.int .u8) (strBytes s) (List.replicate (cap - s.length) (Value.int .u8 0)) E)) ?_
  (hk w.heap.size _ _ _ _ h1 ⟨cap, by simp [strBytes], by simp [strBytes]; omega, hle⟩ ⟨h2.same, h2.size, h2.av⟩ (((Below.refl _ _).drew).alloc (Nat.le_refl _) _) (fun _ h => .inl h) h3 (Nat.le_refl _) _ (ha.put _ hdn))
 simp only [execOp, ha.look hx, str, Sem.run_bind, hrun, Result.andThen_ok, Sem.run_pure, hsz]
theorem sr_store_arr {x y : Operand} {U : TypeId} {j g : Nat} {kk : IntKind} {xs : List Int} {tt : TypeId} {i u : Int} {pos : String} {after : Array Edge} (hH : Hp A B w L) (hj : L[j]? = some (g, .cells (xs.map (Value.int kk)).toArray tt (0, 0)))
  (hz : ∀ w, (sizeOf U).run P w = .ok 1 w) (hx : look l x = some (.pointer (some ⟨g, 0 + i.toNat * 1, none⟩))) (hy : look l y = some (.int kk u)) (hb : inb i xs.length = true)
  (hk : ∀ w', Hp A B w' (L.set j (g, .cells ((setAt xs i u).map (Value.int kk)).toArray tt (0, 0))) → Wr A w w' g → SR P Qr n ops rest l w') :
  SR P Qr n ops (⟨none, .store U x y, t, pos, after, none⟩ :: rest) l w := by
 have hi := inb_iff.1 hb
 have hlt : i.toNat < xs.length := by omega
 refine sr_store (i := j) (v := .int kk u) (vs := [.int kk u]) (cs' := ((setAt xs i u).map (Value.int kk)).toArray) hH hj hx hy rfl hz ?_ rfl ?_ hk
 ·exact Nat.ble_eq_true_of_le (by simp; omega)
 ·simp only [Nat.zero_add, Nat.mul_one, setAt, List.map_set]
  rw [List.set_eq_take_append_cons_drop, if_pos (by simpa using hlt)]
  simp

def SQ (P : Program) (n : Nat) (w : World) (Q : Act → Prop) (ops : Array Oper) (rest : List Oper) (l : Env) : Prop :=
 ∀ a, At n l a → wpQuiet P ops (fun w' => Below w.heap.size w w') Q rest a
variable {Q : Act → Prop}
theorem ke_region_q {i : Nat} {os : List Oper} (hm : P.follows .mixedOrders = true) (hB : Region.lexB .any os.toArray = true)
  (h : SQ P n w (fun a => ∀ w', Below w.heap.size w w' → KWP P f R k a w') os.toArray os l) : KE P f R n (.code (.region i os.toArray true) :: k) l w := by
 intro a ha
 refine kwp_of_wp (wp_region_quiet (C := fun w' => Below w.heap.size w w') hm hB ((Below.refl _ _).drew) ?_)
 have := h a ha
 simpa [kq] using this
theorem sq_end {l' : Env} (hs : Env.sub l' l) (h : ∀ w', Below w.heap.size w w' → KE P f R n k l' w') : SQ P n w (fun a => ∀ w', Below w.heap.size w w' → KWP P f R k a w') ops [] l :=
 fun a ha w' hw => h w' hw a (ha.weaken hs)
theorem sq_weaken {l' : Env} (hs : Env.sub l' l) (h : SQ P n w Q ops rest l') : SQ P n w Q ops rest l := fun a ha => h a (ha.weaken hs)
theorem sq_join {α : Type} {C : α → Prop} {l' : α → Env} (m : Nat) (hK : ∀ x, C x → SQ P n w Q ops (rest.drop m) (l' x))
  (h : (∀ x, C x → SQ P n w Q ops (rest.drop m) (l' x)) → SQ P n w Q ops rest l) : SQ P n w Q ops rest l := h hK
theorem sq_of {o : Oper} {d : Nat} {v : Value} (ho : o.dst = some d) (hd : d < n) (hw : ∀ a, At n l a → Region.wanted o (yielded ops a.tmps) = true)
  (h : ∀ a, At n l a → ∀ w', Below w.heap.size w w' → o.quietAt P a (fun w' => Below w.heap.size w w') w' v) (hk : SQ P n w Q ops rest (l.put d v)) : SQ P n w Q ops (o :: rest) l := by
 intro a ha
 simp only [wpQuiet, hw a ha, if_true]
 refine ⟨v, h a ha, ?_⟩
 rw [ho]
 exact hk _ (ha.put v hd)
theorem sq_ev {d : Nat} {o : Op} {t : TypeId} {pos : String} {after : Array Edge} {v : Value} (h : ∀ w', Below w.heap.size w w' → Ev P l o t w' v) (hd : d < n) (hk : SQ P n w Q ops rest (l.put d v)) :
  SQ P n w Q ops (⟨some d, o, t, pos, after, none⟩ :: rest) l :=
 sq_of rfl hd (fun _ _ => rfl) (fun a ha w' hw => by
  unfold Oper.quietAt
  rw [h w' hw a n _ _ _ _ ha]
  exact ⟨rfl, rfl⟩) hk
theorem sq_evg {d j : Nat} {b c : Bool} {o : Op} {t : TypeId} {pos : String} {after : Array Edge} {v : Value} {e : Nat} (he : (ops[j]?).bind (·.dst) = some e) (hb : l.get e = some (.bool c)) (hc : c = b)
  (h : ∀ w', Below w.heap.size w w' → Ev P l o t w' v) (hd : d < n) (hk : SQ P n w Q ops rest (l.put d v)) :
  SQ P n w Q ops (⟨some d, o, t, pos, after, some (j, b)⟩ :: rest) l :=
 sq_of rfl hd (fun a ha => by simp [Region.wanted, yielded_of ha he hb, hc]) (fun a ha w' hw => by
  unfold Oper.quietAt
  rw [h w' hw a n _ _ _ _ ha]
  exact ⟨rfl, rfl⟩) hk
theorem sq_pass {d j : Nat} {b c : Bool} {o : Op} {t : TypeId} {pos : String} {after : Array Edge} {e : Nat} (he : (ops[j]?).bind (·.dst) = some e) (hb : l.get e = some (.bool c)) (hne : (some c == some b) = false)
  (hd : d < n) (hk : SQ P n w Q ops rest (l.put d undef)) : SQ P n w Q ops (⟨some d, o, t, pos, after, some (j, b)⟩ :: rest) l := by
 intro a ha
 have hw : Region.wanted ⟨some d, o, t, pos, after, some (j, b)⟩ (yielded ops a.tmps) = false := by
  simpa [Region.wanted, yielded_of ha he hb] using hne
 simp only [wpQuiet, hw]
 exact hk _ (ha.put undef hd)
theorem sq_pass_undef {d j : Nat} {b : Bool} {o : Op} {t : TypeId} {pos : String} {after : Array Edge} {e : Nat} (he : (ops[j]?).bind (·.dst) = some e) (hb : l.get e = some undef)
  (hd : d < n) (hk : SQ P n w Q ops rest (l.put d undef)) : SQ P n w Q ops (⟨some d, o, t, pos, after, some (j, b)⟩ :: rest) l := by
 intro a ha
 have hw : Region.wanted ⟨some d, o, t, pos, after, some (j, b)⟩ (yielded ops a.tmps) = false := by
  have := ha.has e _ hb
  simp [Region.wanted, yielded, he, this, undef]
 simp only [wpQuiet, hw]
 exact hk _ (ha.put undef hd)
theorem quiet_call {a : Act} (ha : At n l a) {fv : Operand} {g : FuncId} {as : Array Operand} {ts : Array TypeId} {t : TypeId} {pos : String} {after : Array Edge} {vs : List Value} {d : Option Tmp} {gd : Option (Nat × Bool)} {v : Value}
  (hv : look l fv = some (.func (.func g) #[] #[])) (hc : ∀ (args : Array Value) (w : World), (callFunc g args).run P w = .ok (.enter g args) w) (hargs : as.toList.map (look l) = vs.map some)
  (h : ∀ w', Below w.heap.size w w' → Calls P g vs.toArray w' (Ret fun u w'' => u = v ∧ Below w'.heap.size w' w'')) : ∀ w', Below w.heap.size w w' →
   (⟨d, .call { callee := .value fv, args := as, argTypes := ts }, t, pos, after, gd⟩ : Oper).quietAt P a (fun w' => Below w.heap.size w w') w' v := by
 intro w' hw
 unfold Oper.quietAt
 rw [run_call ha hv hc hargs]
 refine ⟨rfl, (h w' hw).mono ?_⟩
 rintro e w'' ⟨u, rfl, rfl, hb⟩
 exact ⟨rfl, hw.trans (hb.mono hw.size)⟩
theorem sq_call {d : Nat} {fv : Operand} {g : FuncId} {as : Array Operand} {ts : Array TypeId} {t : TypeId} {pos : String} {after : Array Edge} {vs : List Value} {v : Value}
  (hv : look l fv = some (.func (.func g) #[] #[])) (hc : ∀ (args : Array Value) (w : World), (callFunc g args).run P w = .ok (.enter g args) w) (hargs : as.toList.map (look l) = vs.map some)
  (h : ∀ w', Below w.heap.size w w' → Calls P g vs.toArray w' (Ret fun u w'' => u = v ∧ Below w'.heap.size w' w'')) (hd : d < n) (hk : SQ P n w Q ops rest (l.put d v)) :
  SQ P n w Q ops (⟨some d, .call { callee := .value fv, args := as, argTypes := ts }, t, pos, after, none⟩ :: rest) l :=
 sq_of rfl hd (fun _ _ => rfl) (fun _ ha => quiet_call ha hv hc hargs h) hk
theorem sq_callg {d j : Nat} {b c : Bool} {e : Nat} (he : (ops[j]?).bind (·.dst) = some e) (hb : l.get e = some (.bool c)) (hcb : c = b)
  {fv : Operand} {g : FuncId} {as : Array Operand} {ts : Array TypeId} {t : TypeId} {pos : String} {after : Array Edge} {vs : List Value} {v : Value}
  (hv : look l fv = some (.func (.func g) #[] #[])) (hc : ∀ (args : Array Value) (w : World), (callFunc g args).run P w = .ok (.enter g args) w) (hargs : as.toList.map (look l) = vs.map some)
  (h : ∀ w', Below w.heap.size w w' → Calls P g vs.toArray w' (Ret fun u w'' => u = v ∧ Below w'.heap.size w' w'')) (hd : d < n) (hk : SQ P n w Q ops rest (l.put d v)) :
  SQ P n w Q ops (⟨some d, .call { callee := .value fv, args := as, argTypes := ts }, t, pos, after, some (j, b)⟩ :: rest) l :=
 sq_of rfl hd (fun a ha => by simp [Region.wanted, yielded_of ha he hb, hcb]) (fun _ ha => quiet_call ha hv hc hargs h) hk

theorem SlR.elem {T : Type} {c : Cdc T} {v : Value} {xs : List T} {U E : TypeId} {i : Int} {z : T} {ti : TypeInfo} (h : SlR c A w v xs) (hT : P.underlying U = some (.slice E)) (hE : P.info? E = some ti) (hs : ti.size = c.size) (hi : idx xs i = some z) :
  ∃ b o cs, ElR c A w b o cs z ∧ ∀ {l : Env} {x y : Operand} {kk : IntKind} {t : TypeId} (w' : World), Below w.heap.size w w' → look l x = some v → look l y = some (.int kk i) → Ev P l (.indexAddr U x y) t w' (.pointer (some ⟨b, o, none⟩)) := by
 obtain ⟨h0, hlt, hz⟩ := idx_some hi
 rcases h with ⟨rfl, _⟩ | ⟨b, off, cap, cur, t', fr, rfl, h2, h3, h4, h5, h6⟩
 ·simp at hlt
 ·refine ⟨b, off + i.toNat * c.size, _, ⟨h6 _ _ hz, h2, fun j u hj => ?_⟩, fun w' _ hx hy => ?_⟩
  ·have := seg_get hj
   simp only [World.cell?, h3]
   simpa using this
  ·intro d n e pos after gd ha
   have hb : 0 ≤ i ∧ i < (xs.length : Int) := by omega
   simp [execOp, ha.look hx, ha.look hy, Instr.indexAt, asIntOf, run_underlying hT, hb, sizeOf_of hE, hs, addr_add]

section
variable {T : Type} {c : Cdc T} {v : Value} {xs : List T} {d : Nat} {x y z : Operand} {U E : TypeId} {kk k2 : IntKind} {i j : Int} {pos : String} {after : Array Edge} {ti : TypeInfo}
end

def EqAgg (P : Program) (U : TypeId) (xs ys : Array Value) (b : Bool) : Prop :=
 ∀ w, (∀ op x y, (eqGuard op U x y (.agg xs) (.agg ys)).run P w = .ok () w) ∧ (Op.equal U (.agg xs) (.agg ys)).run P w = .ok b w
theorem ev_aeq {x y : Operand} {U V : TypeId} {xs ys : Array Value} {b : Bool} (h : EqAgg P U xs ys b) (hx : look l x = some (.agg xs)) (hy : look l y = some (.agg ys)) : Ev P l (.binOp .eql U x y V) t w (.bool b) := by
 intro c n d pos after g ha
 obtain ⟨h1, h2⟩ := h w
 simp only [execOp, ha.look hx, ha.look hy, Sem.run_bind, h1, Result.andThen_ok, binOp, h2, Sem.run_pure]
theorem ev_ane {x y : Operand} {U V : TypeId} {xs ys : Array Value} {b : Bool} (h : EqAgg P U xs ys b) (hx : look l x = some (.agg xs)) (hy : look l y = some (.agg ys)) : Ev P l (.binOp .neq U x y V) t w (.bool (!b)) := by
 intro c n d pos after g ha
 obtain ⟨h1, h2⟩ := h w
 simp only [execOp, ha.look hx, ha.look hy, Sem.run_bind, h1, Result.andThen_ok, binOp, h2, Sem.run_pure]
end
end Go.KW
