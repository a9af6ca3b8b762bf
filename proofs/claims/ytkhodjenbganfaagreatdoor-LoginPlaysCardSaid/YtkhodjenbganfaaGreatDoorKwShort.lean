/- Own work: runs of plain operations taken at once, and shorter forms of the steps. -/
import Derived.Test.YtkhodjenbganfaaGreatDoorKwMap3
import Derived.Test.YtkhodjenbganfaaGreatDoorKwSeg2
import Derived.Test.YtkhodjenbganfaaGreatDoorKwKeys
import Derived.Test.YtkhodjenbganfaaGreatDoorKwGlob
import Derived.Test.YtkhodjenbganfaaGreatDoorKwOffs
import Derived.Test.YtkhodjenbganfaaGreatDoorKwMapR
import Derived.Test.YtkhodjenbganfaaGreatDoorKwOpt
import Derived.Test.YtkhodjenbganfaaGreatDoorKwNest
set_option linter.unusedVariables false
set_option linter.unusedSectionVars false
namespace Go.KW
open Go Go.RowKit
abbrev pT (g o : Nat) : Value := .pointer (some ⟨g, o, none⟩)
section
variable {P : Program} {f : FuncId} {R : Ending → World → Prop} {n : Nat} {k : List Item} {Qr : Exit → Act → World → Prop} {l : Env} {w : World} {ops : Array Oper} {rest : List Oper} {t : TypeId}
def cmpV (g : Int → Int → Bool) : Option Value → Option Value → Option Value
 | some (.int k a), some (.int k' b) => match decEq k k' with
  | isTrue _ => some (.bool (g a b))
  | isFalse _ => none
 | _, _ => none
def intV (g : IntKind → Int → Int → Int) : Option Value → Option Value → Option Value
 | some (.int k a), some (.int k' b) => match decEq k k' with
  | isTrue _ => some (.int k (g k a b))
  | isFalse _ => none
 | _, _ => none
def nthL : List Value → Nat → Option Value
 | [], _ => none
 | v :: _, 0 => some v
 | _ :: r, i + 1 => nthL r i
theorem nthL_eq : ∀ {vs : List Value} {i : Nat}, nthL vs i = vs[i]?
 | [], _ => by simp [nthL]
 | _ :: _, 0 => rfl
 | _ :: r, i + 1 => by simp [nthL, nthL_eq (vs := r) (i := i)]
def pureV (l : Env) : Op → Option Value
 | .move x => look l x
 | .assign x => look l x
 | .nilCheck x => match look l x with
  | some (.pointer (some p)) => some (.pointer (some p))
  | _ => none
 | .unOp .not _ x => match look l x with
  | some (.bool a) => some (.bool (!a))
  | _ => none
 | .pick c x y => match look l c with
  | some (.bool true) => look l x
  | some (.bool false) => look l y
  | _ => none
 | .extract x i => match look l x with
  | some (.tuple vs) => nthL vs.toList i
  | _ => none
 | .binOp .eql _ x y _ => cmpV (fun a b => a == b) (look l x) (look l y)
 | .binOp .neq _ x y _ => cmpV (fun a b => a != b) (look l x) (look l y)
 | .binOp .lss _ x y _ => cmpV (fun a b => decide (a < b)) (look l x) (look l y)
 | .binOp .leq _ x y _ => cmpV (fun a b => decide (a ≤ b)) (look l x) (look l y)
 | .binOp .gtr _ x y _ => cmpV (fun a b => decide (a > b)) (look l x) (look l y)
 | .binOp .geq _ x y _ => cmpV (fun a b => decide (a ≥ b)) (look l x) (look l y)
 | .binOp .add _ x y _ => intV (fun k a b => k.wrap (a + b)) (look l x) (look l y)
 | .binOp .sub _ x y _ => intV (fun k a b => k.wrap (a - b)) (look l x) (look l y)
 | _ => none
theorem cmpV_ok {g : Int → Int → Bool} {u u' : Option Value} {v : Value} (h : cmpV g u u' = some v) : ∃ k a b, u = some (.int k a) ∧ u' = some (.int k b) ∧ v = .bool (g a b) := by
 unfold cmpV at h
 split at h
 ·split at h
  ·rename_i e _; subst e; exact ⟨_, _, _, rfl, rfl, (Option.some.inj h).symm⟩
  ·cases h
 ·cases h
theorem intV_ok {g : IntKind → Int → Int → Int} {u u' : Option Value} {v : Value} (h : intV g u u' = some v) : ∃ k a b, u = some (.int k a) ∧ u' = some (.int k b) ∧ v = .int k (g k a b) := by
 unfold intV at h
 split at h
 ·split at h
  ·rename_i e _; subst e; exact ⟨_, _, _, rfl, rfl, (Option.some.inj h).symm⟩
  ·cases h
 ·cases h
theorem pureV_ok {o : Op} {v : Value} (h : pureV l o = some v) : Ev P l o t w v := by
 unfold pureV at h
 split at h
 ·exact ev_move h
 ·exact ev_assign h
 ·split at h
  ·cases h; rename_i e; exact ev_nilCheck e
  ·cases h
 ·split at h
  ·cases h; rename_i e; exact ev_not e
  ·cases h
 ·split at h
  ·rename_i e; exact ev_pick_t e rfl h
  ·rename_i e; exact ev_pick_f e rfl h
  ·cases h
 ·split at h
  ·rename_i e; exact ev_extract e (by rw [nthL_eq] at h; simpa using h)
  ·cases h
 all_goals first
  | (obtain ⟨k, a, b, h1, h2, rfl⟩ := cmpV_ok h; first | exact ev_eq h1 h2 | exact ev_ne h1 h2 | exact ev_lt h1 h2 | exact ev_le h1 h2 | exact ev_gt h1 h2 | exact ev_ge h1 h2)
  | (obtain ⟨k, a, b, h1, h2, rfl⟩ := intV_ok h; first | exact ev_add h1 h2 | exact ev_sub h1 h2)
  | cases h
def oneP (n : Nat) (ops : Array Oper) (l : Env) : Oper → Option Env
 | ⟨some d, o, _, _, _, none⟩ => match Nat.blt d n with
  | true => match pureV l o with
   | some v => some (l.put d v)
   | none => none
  | false => none
 | ⟨some d, o, _, _, _, some (j, b)⟩ => match Nat.blt d n with
  | true => match (ops[j]?).bind (·.dst) with
   | some e => match l.get e with
    | some (.bool c) => match c, b with
     | true, true => match pureV l o with
      | some v => some (l.put d v)
      | none => none
     | false, false => match pureV l o with
      | some v => some (l.put d v)
      | none => none
     | true, false => some (l.put d undef)
     | false, true => some (l.put d undef)
    | some (.tuple ⟨[]⟩) => some (l.put d undef)
    | _ => none
   | none => none
  | false => none
 | _ => none
def runP (n : Nat) (ops : Array Oper) : Nat → Env → List Oper → Option (Env × List Oper)
 | 0, l, r => some (l, r)
 | m + 1, l, o :: r => match oneP n ops l o with
  | some l' => runP n ops m l' r
  | none => none
 | _ + 1, _, [] => none
theorem blt_lt {d n : Nat} (h : Nat.blt d n = true) : d < n := Nat.le_of_ble_eq_true h
theorem oneP_ok {o : Oper} {l' : Env} (h : oneP n ops l o = some l') (hk : SR P Qr n ops rest l' w) : SR P Qr n ops (o :: rest) l w := by
 unfold oneP at h
 split at h
 ·split at h
  ·rename_i hd
   split at h
   ·rename_i v hv; cases h; exact sr_ev (pureV_ok hv) (blt_lt hd) hk
   ·cases h
  ·cases h
 ·split at h
  ·rename_i hd
   split at h
   ·rename_i e he
    split at h
    ·rename_i hb
     split at h
     ·split at h
      ·rename_i v hv; cases h; exact sr_evg he hb rfl (pureV_ok hv) (blt_lt hd) hk
      ·cases h
     ·split at h
      ·rename_i v hv; cases h; exact sr_evg he hb rfl (pureV_ok hv) (blt_lt hd) hk
      ·cases h
     ·cases h; exact sr_pass he hb rfl (blt_lt hd) hk
     ·cases h; exact sr_pass he hb rfl (blt_lt hd) hk
    ·rename_i hb; cases h; exact sr_pass_undef he hb (blt_lt hd) hk
    ·cases h
   ·cases h
  ·cases h
 ·cases h
theorem runP_ok : ∀ {m : Nat} {l l' : Env} {rest r' : List Oper}, runP n ops m l rest = some (l', r') → SR P Qr n ops r' l' w → SR P Qr n ops rest l w
 | 0, _, _, _, _, h, hk => by cases h; exact hk
 | m + 1, l, _, o :: r, _, h, hk => by
  unfold runP at h
  split at h
  ·rename_i l1 h1; exact oneP_ok h1 (runP_ok h hk)
  ·cases h
 | _ + 1, _, _, [], _, h, _ => by cases h
theorem sr_go (m : Nat) {l' : Env} {r' : List Oper} (h : runP n ops m l rest = some (l', r')) (hk : SR P Qr n ops r' l' w) : SR P Qr n ops rest l w := runP_ok h hk
theorem sr_setb (e : Nat) {c b : Bool} (he : l.get e = some (.bool c)) (hc : c = b) (hk : SR P Qr n ops rest (l.put e (.bool b)) w) : SR P Qr n ops rest l w := by
 subst hc
 exact sr_weaken (l' := l.put e (.bool c)) (Env.sub.cons he fun _ _ h => h) hk
theorem sr_unb (e : Nat) {c b : Bool} (he : l.get e = some (.bool b)) (hc : c = b) (hk : SR P Qr n ops rest (l.put e (.bool c)) w) : SR P Qr n ops rest l w := by
 subst hc
 exact sr_weaken (l' := l.put e (.bool c)) (Env.sub.cons he fun _ _ h => h) hk
def keep : List Nat → Env → Option Env
 | [], _ => some []
 | i :: r, l => match l.get i with
  | some v => match keep r l with
   | some l' => some ((i, v) :: l')
   | none => none
  | none => none
theorem keep_sub : ∀ {ks : List Nat} {l l' : Env}, keep ks l = some l' → Env.sub l' l
 | [], l, _, h => by cases h; exact .nil _
 | i :: r, l, _, h => by
  unfold keep at h
  split at h
  ·rename_i v hv
   split at h
   ·rename_i l1 h1; cases h; exact .cons hv (keep_sub h1)
   ·cases h
  ·cases h
theorem sr_fin (ks : List Nat) {l' : Env} (h : keep ks l = some l') (hk : KE P f R n k l' w) : SR P (kq P f R k) n ops [] l w := sr_end (keep_sub h) hk
theorem ke_fin (ks : List Nat) {l' : Env} (h : keep ks l = some l') (hk : KE P f R n k l' w) : KE P f R n k l w := ke_weaken (keep_sub h) hk
theorem sr_wk {l' : Env} (hk : SR P Qr n ops rest l' w) (h : keep (l'.map Prod.fst) l = some l' := by exact rfl) : SR P Qr n ops rest l w := sr_weaken (keep_sub h) hk
theorem ke_wk {l' : Env} (hk : KE P f R n k l' w) (h : keep (l'.map Prod.fst) l = some l' := by exact rfl) : KE P f R n k l w := ke_weaken (keep_sub h) hk
variable {Q : Act → Prop}
theorem oneQ_ok {o : Oper} {l' : Env} (h : oneP n ops l o = some l') (hk : SQ P n w Q ops rest l') : SQ P n w Q ops (o :: rest) l := by
 unfold oneP at h
 split at h
 ·split at h
  ·rename_i hd
   split at h
   ·rename_i v hv; cases h; exact sq_ev (fun _ _ => pureV_ok hv) (blt_lt hd) hk
   ·cases h
  ·cases h
 ·split at h
  ·rename_i hd
   split at h
   ·rename_i e he
    split at h
    ·rename_i hb
     split at h
     ·split at h
      ·rename_i v hv; cases h; exact sq_evg he hb rfl (fun _ _ => pureV_ok hv) (blt_lt hd) hk
      ·cases h
     ·split at h
      ·rename_i v hv; cases h; exact sq_evg he hb rfl (fun _ _ => pureV_ok hv) (blt_lt hd) hk
      ·cases h
     ·cases h; exact sq_pass he hb rfl (blt_lt hd) hk
     ·cases h; exact sq_pass he hb rfl (blt_lt hd) hk
    ·rename_i hb; cases h; exact sq_pass_undef he hb (blt_lt hd) hk
    ·cases h
   ·cases h
  ·cases h
 ·cases h
theorem runQ_ok : ∀ {m : Nat} {l l' : Env} {rest r' : List Oper}, runP n ops m l rest = some (l', r') → SQ P n w Q ops r' l' → SQ P n w Q ops rest l
 | 0, _, _, _, _, h, hk => by cases h; exact hk
 | m + 1, l, _, o :: r, _, h, hk => by
  unfold runP at h
  split at h
  ·rename_i l1 h1; exact oneQ_ok h1 (runQ_ok h hk)
  ·cases h
 | _ + 1, _, _, [], _, h, _ => by cases h
theorem sq_go (m : Nat) {l' : Env} {r' : List Oper} (h : runP n ops m l rest = some (l', r')) (hk : SQ P n w Q ops r' l') : SQ P n w Q ops rest l := runQ_ok h hk
theorem sq_setb (e : Nat) {c b : Bool} (he : l.get e = some (.bool c)) (hc : c = b) (hk : SQ P n w Q ops rest (l.put e (.bool b))) : SQ P n w Q ops rest l := by
 subst hc
 exact sq_weaken (l' := l.put e (.bool c)) (Env.sub.cons he fun _ _ h => h) hk
theorem sq_wk {l' : Env} (hk : SQ P n w Q ops rest l') (h : keep (l'.map Prod.fst) l = some l' := by exact rfl) : SQ P n w Q ops rest l := sq_weaken (keep_sub h) hk
theorem sq_fin (ks : List Nat) {l' : Env} (h : keep ks l = some l') (hk : ∀ w', Below w.heap.size w w' → KE P f R n k l' w') : SQ P n w (fun a => ∀ w', Below w.heap.size w w' → KWP P f R k a w') ops [] l := sq_end (keep_sub h) hk
end
section
variable {ρ ρ' ρ'' : Tags} {w w' w'' : World} {J J' K : Nat → Bool} {i : Nat}
theorem Blk.m {g : Nat} {o : Obj} (h : Blk ρ i w g o) (t : Tr ρ w J ρ' w') (hi : J i = false := by exact rfl) : Blk ρ' i w' g o := h.mv (t.mv hi)
theorem MapT.m {K V : Type} [DecidableEq K] {ek : K → Value} {c : Cdc V} {agg : Bool} {v : Value} {m : GMap K V} (h : MapT ek c agg ρ i w v m) (t : Tr ρ w J ρ' w') (hi : J i = false := by exact rfl) : MapT ek c agg ρ' i w' v m := h.mv (t.mv hi)
theorem SlT.m {T : Type} {c : Cdc T} {v : Value} {xs : List T} (h : SlT c ρ i w v xs) (t : Tr ρ w J ρ' w') (hi : J i = false := by exact rfl) : SlT c ρ' i w' v xs := h.mv (t.mv hi)
theorem PtrO.m {S : Type} {N : Nat} {O : (Nat → Nat) → Tags → World → Nat → S → Prop} {τ : Nat → Nat} {v : Value} {x : Option S} (h : PtrO O τ ρ w v x) (ok : ObjK N O) (t : Tr ρ w J ρ' w')
  (hi : ∀ p, p < N → J (τ p) = false := by intro p hp; first | exact rfl | (rcases p with _ | _ | _ | p <;> first | exact rfl | omega)) (h0 : ∀ p, p < N → τ p ≠ 0 := by intro p hp; first | exact Nat.succ_ne_zero _ | (intro h; simp at h <;> omega)) : PtrO O τ ρ' w' v x :=
 h.mv ok (fun p hp => t.mv (hi p hp)) h0
theorem OwnT.m {T : Type} {c : Cdc T} {E : TypeId} {v : Value} {xs : List T} (h : OwnT c E ρ i w v xs) (t : Tr ρ w J ρ' w') (hi : J i = false := by exact rfl) (h0 : i ≠ 0 := by decide) : OwnT c E ρ' i w' v xs := h.mv (t.mv hi) h0
theorem OffT.m {T : Type} {c : Cdc T} {E : TypeId} {v : Value} {xs : List T} (h : OffT c E ρ i w v xs) (t : Tr ρ w J ρ' w') (hi : J i = false := by exact rfl) (h0 : i ≠ 0 := by decide) : OffT c E ρ' i w' v xs := h.mv (t.mv hi) h0
theorem NestT.m {T : Type} {c : Cdc T} {E : TypeId} {M : NM T} {q : Option (Str × Nat)} (h : NestT c E ρ i w M q) (t : Tr ρ w J ρ' w') (hi : J i = false := by exact rfl) (h0 : i ≠ 0 := by decide) : NestT c E ρ' i w' M q := h.mv (t.mv hi) h0
theorem Tr.tw (h : Tr ρ w J ρ' w') (t : Tr ρ' w' K ρ'' w'') (hK : ∀ x, J x = false → (J x || K x) = false := by intro t h; simp [rng] at h ⊢ <;> omega) (h0 : J 0 = false := by exact rfl) (h1 : J 1 = false := by exact rfl) : Tr ρ w J ρ'' w'' := (h.trans t).weak hK h0 h1
variable {ρ0 : Tags} {w0 : World} {o n : Nat}
theorem Blk.lv (p : Nat) {g : Nat} {ob : Obj} (h : Blk ρ (100 + p) w g ob) (hf : Fr (enter ρ0 o n) w0 ρ w) (hp : p < n := by decide) : Blk (leave ρ0 w0 o n ρ) (o + p) w g ob := h.mv (leave_mv hp hf)
theorem MapT.lv (p : Nat) {K V : Type} [DecidableEq K] {ek : K → Value} {c : Cdc V} {agg : Bool} {v : Value} {m : GMap K V} (h : MapT ek c agg ρ (100 + p) w v m) (hf : Fr (enter ρ0 o n) w0 ρ w) (hp : p < n := by decide) : MapT ek c agg (leave ρ0 w0 o n ρ) (o + p) w v m := h.mv (leave_mv hp hf)
theorem OwnT.lv (p : Nat) {T : Type} {c : Cdc T} {E : TypeId} {v : Value} {xs : List T} (h : OwnT c E ρ (100 + p) w v xs) (ho : 2 ≤ o) (hf : Fr (enter ρ0 o n) w0 ρ w) (hp : p < n := by decide) : OwnT c E (leave ρ0 w0 o n ρ) (o + p) w v xs := h.mv (leave_mv hp hf) (by omega)
theorem NestT.lv (p : Nat) {T : Type} {c : Cdc T} {E : TypeId} {M : NM T} {q : Option (Str × Nat)} (h : NestT c E ρ (100 + p) w M q) (ho : 2 ≤ o) (hf : Fr (enter ρ0 o n) w0 ρ w) (hp : p < n := by decide) : NestT c E (leave ρ0 w0 o n ρ) (o + p) w M q := h.mv (leave_mv hp hf) (by omega)
theorem PtrO.lv {S : Type} {N a : Nat} {O : (Nat → Nat) → Tags → World → Nat → S → Prop} {v : Value} {x : Option S} (h : PtrO O (fun q => 100 + (a + q)) ρ w v x) (ok : ObjK N O) (ho : 2 ≤ o) (hf : Fr (enter ρ0 o n) w0 ρ w) (hp : a + N ≤ n := by decide) : PtrO O (fun q => o + (a + q)) (leave ρ0 w0 o n ρ) w v x :=
 h.mv ok (fun p hq => leave_mv (p := a + p) (by omega) hf) (fun p hq => by show o + (a + p) ≠ 0; omega)
end
section
variable {P : Program} {f : FuncId} {R : Ending → World → Prop} {n : Nat} {k : List Item} {Qr : Exit → Act → World → Prop} {l : Env} {ρ : Tags} {w : World} {ops : Array Oper} {J : Nat → Bool} {c : Nat} {done : List Nat}
theorem dj_nx (ks : List Nat) {i : Nat} {l' : Env} {rest : List Oper} {J' : Nat → Bool} {ρ' : Tags} {w' : World} (hl : keep ks l = some l') (htr : Tr ρ w J' ρ' w') (h : DJ P Qr n ops J c done l' ρ' w') (hr : rest = [] := by exact rfl)
  (hJ : ∀ t, J t = false → J' t = false := by intro t h; simp [rng] at h ⊢ <;> omega) (h0 : J 0 = false := by exact rfl) (h1 : J 1 = false := by exact rfl) : SR P (qn (Kj P Qr ops J c i done ρ w)) n ops rest l w' :=
 dj_next hr (keep_sub hl) htr hJ h0 h1 h
theorem dj_v (i : Nat) {d : Nat} {o : Op} {t : TypeId} {pos : String} {after : Array Edge} {v : Value} (hbd : ∀ b, ρ b ≠ 0 → b < w.heap.size) (ho : ops[i]? = some ⟨some d, o, t, pos, after, none⟩) (hv : pureV l o = some v)
  (h : DJ P Qr n ops J c (i :: done) (l.put d v) ρ w) (hsel : Region.noSelect ops = true := by as_aux_lemma => kernel_rfl) (hB : ((Region.ready .any ops (mask ops done)).contains i && Region.free .any ops (mask ops done) i && decide (done.length < ops.size) && lateB ops c i) = true := by as_aux_lemma => kernel_rfl)
  (hQ : ∀ c a w, Qr (.panic c) a w → False := by exact fun _ _ _ h => h) (h0 : J 0 = false := by rfl) (h1 : J 1 = false := by rfl) (hd : d < n := by decide) : DJ P Qr n ops J c done l ρ w :=
 dj_H i hsel hB ho hQ (sj_refl hbd h0 h1) (fun _ _ _ => pureV_ok hv) hd h
end
section
variable {P : Program} {f : FuncId} {R : Ending → World → Prop} {n : Nat} {k : List Item} {Qr : Exit → Act → World → Prop} {l : Env} {w : World} {ops : Array Oper} {rest : List Oper} {t : TypeId} {d : Nat} {pos : String} {after : Array Edge} {ρ : Tags}
theorem sr_e {o : Op} {v : Value} (h : Ev P l o t w v) (hk : SR P Qr n ops rest (l.put d v) w) (hd : d < n := by decide) : SR P Qr n ops (⟨some d, o, t, pos, after, none⟩ :: rest) l w := sr_ev h hd hk
theorem sr_eg {j e : Nat} {b c : Bool} {o : Op} {v : Value} (hc : c = b) (h : Ev P l o t w v) (hk : SR P Qr n ops rest (l.put d v) w) (he : (ops[j]?).bind (·.dst) = some e := by exact rfl) (hb : l.get e = some (.bool c) := by exact rfl) (hd : d < n := by decide) :
  SR P Qr n ops (⟨some d, o, t, pos, after, some (j, b)⟩ :: rest) l w := sr_evg he hb hc h hd hk
theorem sr_fa (o' : Nat) {x : Operand} {U : TypeId} {fs : Array Field} {fd : Field} {i b o : Nat} {ti : TypeInfo} (hT : P.underlying U = some (.struct fs)) (hf : fs[i]? = some fd) (hi : P.info? fd.type = some ti) (hk : SR P Qr n ops rest (l.put d (.pointer (some ⟨b, o', none⟩))) w)
  (hx : look l x = some (.pointer (some ⟨b, o, none⟩)) := by exact rfl) (hs : (ti.size == 0) = false := by exact rfl) (ho : o + fd.offset = o' := by exact rfl) (hd : d < n := by decide) : SR P Qr n ops (⟨some d, .fieldAddr U x i, t, pos, after, none⟩ :: rest) l w := by
 subst ho; exact sr_ev (ev_fieldAddr hT hf hi hs hx) hd hk
theorem sr_ld (u : Value) {x : Operand} {U : TypeId} {b o : Nat} (hT : ∀ w, (isAgg U).run P w = .ok false w) (hx : look l x = some (.pointer (some ⟨b, o, none⟩))) (hc : w.cell? ⟨b, o, none⟩ = some u) (hk : SR P Qr n ops rest (l.put d u) w) (hd : d < n := by decide) :
  SR P Qr n ops (⟨some d, .load U x, t, pos, after, none⟩ :: rest) l w := sr_ev (ev_load hT hx hc) hd hk
theorem sr_cl {fv : Operand} {g : FuncId} {ars : Array Operand} {ts : Array TypeId} {vs : List Value} (hc : ∀ (args : Array Value) (w : World), (callFunc g args).run P w = .ok (.enter g args) w) {Rc : Value → World → Prop}
  (h : Calls P g vs.toArray w (Ret Rc)) (hk : ∀ v w', Rc v w' → SR P Qr n ops rest (l.put d v) w') (hv : look l fv = some (.func (.func g) #[] #[]) := by exact rfl) (hargs : ars.toList.map (look l) = vs.map some := by exact rfl) (hd : d < n := by decide) :
  SR P Qr n ops (⟨some d, .call { callee := .value fv, args := ars, argTypes := ts }, t, pos, after, none⟩ :: rest) l w := sr_call hv hc hargs h hd hk
theorem sr_cb {fv : Operand} {g : FuncId} {ars : Array Operand} {ts : Array TypeId} {vs : List Value} {x : Value} (hc : ∀ (args : Array Value) (w : World), (callFunc g args).run P w = .ok (.enter g args) w)
  (h : Calls P g vs.toArray w (Ret fun v w' => v = x ∧ Below w.heap.size w w')) (hbd : ∀ b, ρ b ≠ 0 → b < w.heap.size) (hk : ∀ w', Tr ρ w (fun _ => false) ρ w' → SR P Qr n ops rest (l.put d x) w') (hv : look l fv = some (.func (.func g) #[] #[]) := by exact rfl) (hargs : ars.toList.map (look l) = vs.map some := by exact rfl) (hd : d < n := by decide) :
  SR P Qr n ops (⟨some d, .call { callee := .value fv, args := ars, argTypes := ts }, t, pos, after, none⟩ :: rest) l w :=
 sr_call hv hc hargs h hd fun v w' hv => by obtain ⟨rfl, hb⟩ := hv; exact hk w' (Tr.of_below hb hbd)
theorem ck {fn : Func} {c : Code} {args : Array Value} {Rc : Ending → World → Prop} (hf : P.funcs[f]? = some fn) (ks : List Nat) {l : Env} (hb : fn.body = some c) (hl : keep ks (entry 0 args.toList) = some l) (h : KE P f Rc n [.code c] l w) (hn : fn.ntmps = n := by exact rfl) (hs : args.size.ble n = true := by exact rfl) : Calls P f args w Rc :=
 calls_of_ke hf hb hn hs rfl (ke_weaken (keep_sub hl) h)
theorem bS {α β : Type} {x : Option α} {k : α → Option β} {r : β} (h : x.bind k = some r) : ∃ y, x = some y ∧ k y = some r := bind_some' h
theorem iT {α : Type} {p : Bool} {x y : Option α} {r : α} (h : (if p then x else y) = some r) (hp : p = true) : x = some r := ite_true' h hp
theorem iF {α : Type} {p : Bool} {x y : Option α} {r : α} (h : (if p then x else y) = some r) (hp : p = false) : y = some r := ite_false' h hp
end
end Go.KW
