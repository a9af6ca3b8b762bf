/- A small calculus over the model: what is still to be done in a frame is a list of items; the frame is known by its live slots. -/
import Derived.WalkKit
import Derived.Deep.Quiet
namespace Go.KW
open Go Go.RowKit

abbrev Str := List UInt8
def str (l : Str) : Value := .string ⟨l.toArray⟩

theorem str_of (s : ByteArray) : Value.string s = str s.data.toList := by
 unfold str; cases s; simp

abbrev Env := List (Nat × Value)

def Env.get : Env → Nat → Option Value
 | [], _ => none
 | (i, v) :: r, n => match Nat.beq i n with | true => some v | false => Env.get r n

def Env.put (l : Env) (n : Nat) (v : Value) : Env := (n, v) :: l

theorem Env.get_cons {i : Nat} {v : Value} {r : Env} {n : Nat} : Env.get ((i, v) :: r) n = if i = n then some v else Env.get r n := by
 show (match Nat.beq i n with | true => some v | false => Env.get r n) = _
 by_cases h : i = n
 ·subst h; simp
 ·have : Nat.beq i n = false := by rw [← Bool.not_eq_true, Nat.beq_eq]; exact h
  rw [this, if_neg h]

def look (l : Env) : Operand → Option Value
 | .tmp t => l.get t
 | .const v => some v
 | .global g => some (.pointer (some ⟨g, 0, none⟩))
 | .func f => some (.func (.func f) #[] #[])

structure At (n : Nat) (l : Env) (a : Act) : Prop where
 size : a.tmps.size = n
 defers : a.defers = []
 has : ∀ i v, l.get i = some v → a.tmps[i]? = some v

theorem At.look {n : Nat} {l : Env} {a : Act} (h : At n l a) {x : Operand} {v : Value} (hx : look l x = some v) : a.eval x = v := by
 cases x with
 | tmp t => have := h.has t v hx; simp [Act.eval, this]
 | const u => simp only [KW.look, Option.some.injEq] at hx; subst hx; rfl
 | global g => simp only [KW.look, Option.some.injEq] at hx; subst hx; rfl
 | func f => simp only [KW.look, Option.some.injEq] at hx; subst hx; rfl

theorem At.put {n : Nat} {l : Env} {a : Act} (h : At n l a) {d : Nat} (v : Value) (hd : d < n) : At n (l.put d v) (a.put (some d) v) := by
 refine ⟨by simp [Act.put, h.size], h.defers, fun i u hi => ?_⟩
 simp only [Act.put]
 by_cases e : d = i
 ·subst e
  simp [Env.put, Env.get_cons] at hi
  subst hi
  simp [h.size, hd]
 ·simp [Env.put, Env.get_cons, e] at hi
  rw [Array.getElem?_setIfInBounds_ne e]
  exact h.has i u hi

theorem At.put_none {n : Nat} {l : Env} {a : Act} (h : At n l a) (v : Value) : At n l (a.put none v) := h

def Env.sub (l' l : Env) : Prop := ∀ i v, l'.get i = some v → l.get i = some v

theorem Env.sub.nil (l : Env) : Env.sub [] l := fun _ _ h => by cases h
theorem Env.sub.cons {l l' : Env} {i : Nat} {v : Value} (h : l.get i = some v) (hr : Env.sub l' l) : Env.sub ((i, v) :: l') l := by
 intro j u hj
 by_cases e : i = j
 ·subst e; simp [Env.get_cons] at hj; subst hj; exact h
 ·simp [Env.get_cons, e] at hj; exact hr j u hj

theorem At.weaken {n : Nat} {l l' : Env} {a : Act} (h : At n l a) (hs : Env.sub l' l) : At n l' a := ⟨h.size, h.defers, fun i v hi => h.has i v (hs i v hi)⟩


def entry : Nat → List Value → Env
 | _, [] => []
 | i, v :: vs => (i, v) :: entry (i + 1) vs
theorem entry_get : ∀ (vs : List Value) (i j : Nat) (v : Value), (entry i vs).get j = some v → i ≤ j ∧ vs[j - i]? = some v
 | [], _, _, _, h => by cases h
 | u :: vs, i, j, v, h => by
  by_cases e : i = j
  ·subst e; simp [entry, Env.get_cons] at h; subst h; simp
  ·simp [entry, Env.get_cons, e] at h
   obtain ⟨h1, h2⟩ := entry_get vs (i + 1) j v h
   refine ⟨by omega, ?_⟩
   rw [show j - i = (j - (i + 1)) + 1 by omega]
   simpa using h2
theorem at_args {args : Array Value} {n : Nat} (hn : args.size ≤ n) : At n (entry 0 args.toList) { tmps := args ++ Array.replicate (n - args.size) undef, defers := [] } := by
 refine ⟨by simp; omega, rfl, fun i v h => ?_⟩
 obtain ⟨_, h2⟩ := entry_get _ _ _ _ h
 simp only [Nat.sub_zero] at h2
 have hi : i < args.size := by
  have := (List.getElem?_eq_some_iff.1 h2).1
  simpa using this
 rw [Array.getElem?_append_left hi]
 simpa using h2

def sub : Code → List Nat → Code
 | c, [] => c
 | .seq a b, i :: p => if i = 1 then sub a p else sub b p
 | .cond _ a b, i :: p => if i = 2 then sub a p else sub b p
 | .block _ b, _ :: p => sub b p
 | .loop b, _ :: p => sub b p
 | .scope b, _ :: p => sub b p
 | c, _ :: _ => c
def bodyOf (fn : Func) : Code := fn.body.getD .skip

def KWP (P : Program) (f : FuncId) (R : Ending → World → Prop) (k : List Item) (a : Act) (w : World) : Prop :=
 ∀ (b : Frame) (cs : List Frame), b.fn = f → b.kind = .normal →
  ∃ e w' fr, R e w' ∧ Comes P (lone (b.at a k) cs w) (lone fr cs w') e ∧ fr.fn = f ∧ fr.leaving P w' e

section
variable {P : Program} {f : FuncId} {R : Ending → World → Prop} {k : List Item} {a : Act} {w : World}

theorem kwp_step {k' : List Item} {a' : Act} {w' : World} (h : KWP P f R k' a' w')
  (hs : ∀ (b : Frame) (cs : List Frame), step P (lone (b.at a k) cs w) = .next (lone (b.at a' k') cs w')) : KWP P f R k a w := by
 intro b cs hf hk
 obtain ⟨e, w₂, fr, h1, h2, h3⟩ := h b cs hf hk
 exact ⟨e, w₂, fr, h1, Comes.of_steps (.one (hs b cs)) h2, h3⟩

def kq (P : Program) (f : FuncId) (R : Ending → World → Prop) (k : List Item) : Exit → Act → World → Prop
 | .normal, a, w => KWP P f R k a w
 | _, _, _ => False

theorem kwp_of_wp {c : Code} (h : c.wp P (kq P f R k) a w) : KWP P f R (.code c :: k) a w := by
 intro b cs hf hk
 obtain ⟨e, a', w', q, arr⟩ := h b k cs
 cases e with
 | normal =>
  obtain ⟨e, w₂, fr, h1, h2, h3⟩ := q b cs hf hk
  exact ⟨e, w₂, fr, h1, Comes.of_steps arr h2, h3⟩
 | _ => exact q.elim

theorem calls_of_kwp {fn : Func} {c : Code} {args : Array Value} (hf : P.funcs[f]? = some fn) (hb : fn.body = some c)
  (h : KWP P f R [.code c] { tmps := args ++ Array.replicate (fn.ntmps - args.size) undef, defers := [] } w) : Calls P f args w R := by
 intro cs
 have henter : Frame.enter P f args .normal =
   ({ (default : Frame) with fn := f, kind := .normal } : Frame).at { tmps := args ++ Array.replicate (fn.ntmps - args.size) undef, defers := [] } [.code c] := by
  simp [Frame.enter, Frame.at, hf, hb]
 obtain ⟨e, w', fr, h1, h2, h3, h4⟩ := h { (default : Frame) with fn := f, kind := .normal } cs rfl rfl
 rw [← henter] at h2
 exact ⟨e, w', fr, h1, h2, h3, h4⟩

theorem kwp_ret {fn : Func} {v : Value} (hf : P.funcs[f]? = some fn) (hd : a.defers = []) (hr : (results fn a.tmps).run P w = .ok v w) (hR : R (.returned v) w) :
  KWP P f R (.code .ret :: k) a w := by
 intro b cs hbf hk
 exact ⟨.returned v, w, _, hR, .one step_ret, hbf, rfl, hd, hk, fn, by simpa [Frame.at, hbf] using hf, hr⟩

theorem kwp_end {fn : Func} {v : Value} (hf : P.funcs[f]? = some fn) (hd : a.defers = []) (hr : (results fn a.tmps).run P w = .ok v w) (hR : R (.returned v) w) :
  KWP P f R [] a w := by
 intro b cs hbf hk
 exact ⟨.returned v, w, _, hR, .one step_end, hbf, rfl, hd, hk, fn, by simpa [Frame.at, hbf] using hf, hr⟩
end

def KE (P : Program) (f : FuncId) (R : Ending → World → Prop) (n : Nat) (k : List Item) (l : Env) (w : World) : Prop :=
 ∀ a, At n l a → KWP P f R k a w

def Ret (R : Value → World → Prop) : Ending → World → Prop := fun e w => ∃ v, e = .returned v ∧ R v w

section
variable {P : Program} {f : FuncId} {R : Ending → World → Prop} {n : Nat} {k : List Item} {Qr : Exit → Act → World → Prop} {l : Env} {w : World}

theorem ke_weaken {l' : Env} (hs : Env.sub l' l) (h : KE P f R n k l' w) : KE P f R n k l w := fun a ha => h a (ha.weaken hs)
theorem ke_seq {x y : Code} (h : KE P f R n (.code x :: .code y :: k) l w) : KE P f R n (.code (.seq x y) :: k) l w :=
 fun a ha => kwp_step (h a ha) fun _ _ => step_seq
theorem ke_skip (h : KE P f R n k l w) : KE P f R n (.code .skip :: k) l w := fun a ha => kwp_step (h a ha) fun _ _ => step_skip
theorem ke_inBlock {i : Nat} (h : KE P f R n k l w) : KE P f R n (.inBlock i :: k) l w := fun a ha => kwp_step (h a ha) fun _ _ => step_inBlock
theorem ke_block {i : Nat} {c : Code} (h : KE P f R n (.code c :: .inBlock i :: k) l w) : KE P f R n (.code (.block i c) :: k) l w :=
 fun a ha => kwp_step (h a ha) fun _ _ => step_block
theorem ke_loop {c : Code} (h : KE P f R n (.code c :: .inLoop c :: k) l w) : KE P f R n (.code (.loop c) :: k) l w :=
 fun a ha => kwp_step (h a ha) fun _ _ => step_loop
theorem ke_inLoop {c : Code} (h : KE P f R n (.code c :: .inLoop c :: k) l w) : KE P f R n (.inLoop c :: k) l w :=
 fun a ha => kwp_step (h a ha) fun _ _ => step_inLoop
theorem ke_exit {i : Nat} {k' : List Item} (he : exitTo i k = some k') (h : KE P f R n k' l w) : KE P f R n (.code (.exit i) :: k) l w :=
 fun a ha => kwp_step (h a ha) fun _ _ => step_exit he
theorem ke_cond {c : Operand} {x y : Code} {t : Bool} (hc : look l c = some (.bool t)) (ht : t = true → KE P f R n (.code x :: k) l w)
  (hf : t = false → KE P f R n (.code y :: k) l w) : KE P f R n (.code (.cond c x y) :: k) l w := by
 intro a ha
 cases t with
 | true => exact kwp_step (ht rfl a ha) fun b cs => step_cond (ha.look hc)
 | false => exact kwp_step (hf rfl a ha) fun b cs => step_cond (ha.look hc)

theorem results_get {fn : Func} {t : Nat} {v : Value} (hn : fn.results = #[.tmp t]) {a : Act} (ha : At n l a) (hv : l.get t = some v) : (results fn a.tmps).run P w = .ok v w := by
 have := ha.has t v hv
 rw [results_tmp hn]; simp [this]
theorem results_get2 {fn : Func} {t u : Nat} {v x : Value} (hn : fn.results = #[.tmp t, .tmp u]) {a : Act} (ha : At n l a) (hv : l.get t = some v) (hx : l.get u = some x) :
  (results fn a.tmps).run P w = .ok (.tuple #[v, x]) w := by
 have h1 := ha.has t v hv
 have h2 := ha.has u x hx
 rw [results_tmp2 hn]; simp [h1, h2]
theorem results_get3 {fn : Func} {t u s : Nat} {v x y : Value} (hn : fn.results = #[.tmp t, .tmp u, .tmp s]) {a : Act} (ha : At n l a) (hv : l.get t = some v) (hx : l.get u = some x) (hy : l.get s = some y) :
  (results fn a.tmps).run P w = .ok (.tuple #[v, x, y]) w := by
 have h1 := ha.has t v hv
 have h2 := ha.has u x hx
 have h3 := ha.has s y hy
 rw [results_tmp3 hn]; simp [h1, h2, h3]

theorem ke_ret0 {fn : Func} (hf : P.funcs[f]? = some fn) (hn : fn.results = #[]) (hR : R (.returned (.tuple #[])) w) : KE P f R n (.code .ret :: k) l w :=
 fun _ ha => kwp_ret hf ha.defers (by rw [results_none hn]) hR
theorem ke_end0 {fn : Func} (hf : P.funcs[f]? = some fn) (hn : fn.results = #[]) (hR : R (.returned (.tuple #[])) w) : KE P f R n [] l w :=
 fun _ ha => kwp_end hf ha.defers (by rw [results_none hn]) hR
theorem ke_ret1 {fn : Func} {t : Nat} {v : Value} (hf : P.funcs[f]? = some fn) (hn : fn.results = #[.tmp t]) (hv : l.get t = some v) (hR : R (.returned v) w) :
  KE P f R n (.code .ret :: k) l w := fun _ ha => kwp_ret hf ha.defers (results_get hn ha hv) hR
theorem ke_ret2 {fn : Func} {t u : Nat} {v x : Value} (hf : P.funcs[f]? = some fn) (hn : fn.results = #[.tmp t, .tmp u]) (hv : l.get t = some v) (hx : l.get u = some x) (hR : R (.returned (.tuple #[v, x])) w) :
  KE P f R n (.code .ret :: k) l w := fun _ ha => kwp_ret hf ha.defers (results_get2 hn ha hv hx) hR
theorem ke_ret3 {fn : Func} {t u s : Nat} {v x y : Value} (hf : P.funcs[f]? = some fn) (hn : fn.results = #[.tmp t, .tmp u, .tmp s]) (hv : l.get t = some v) (hx : l.get u = some x) (hy : l.get s = some y)
  (hR : R (.returned (.tuple #[v, x, y])) w) : KE P f R n (.code .ret :: k) l w := fun _ ha => kwp_ret hf ha.defers (results_get3 hn ha hv hx hy) hR


def SR (P : Program) (Qr : Exit → Act → World → Prop) (n : Nat) (ops : Array Oper) (rest : List Oper) (l : Env) (w : World) : Prop :=
 ∀ a, At n l a → wpList P ops Qr rest a w

variable {ops : Array Oper} {rest : List Oper}

theorem ke_region {i : Nat} {os : List Oper} (h : SR P (kq P f R k) n os.toArray os l w) : KE P f R n (.code (.region i os.toArray false) :: k) l w :=
 fun a ha => kwp_of_wp (wp_region_lit (h a ha))
theorem sr_end {l' : Env} (hs : Env.sub l' l) (h : KE P f R n k l' w) : SR P (kq P f R k) n ops [] l w := fun a ha => h a (ha.weaken hs)
theorem sr_weaken {l' : Env} (hs : Env.sub l' l) (h : SR P Qr n ops rest l' w) : SR P Qr n ops rest l w := fun a ha => h a (ha.weaken hs)

def Ev (P : Program) (l : Env) (o : Op) (t : TypeId) (w : World) (v : Value) : Prop :=
 ∀ a n d pos after g, At n l a → (execOp a.eval ⟨d, o, t, pos, after, g⟩).run P w = .ok (.value v) w

theorem wpl_of_run {o : Oper} {a : Act} {Q : Exit → Act → World → Prop} (hg : Region.wanted o (yielded ops a.tmps) = true) {v : Value} {w' : World}
  (h : (execOp a.eval o).run P w = .ok (.value v) w') (hk : wpList P ops Q rest (a.put o.dst v) w') : wpList P ops Q (o :: rest) a w := by
 simp only [wpList, hg, if_true, Oper.wp, h, Oper.upon]
 exact .inl hk

theorem wanted_none {d : Option Tmp} {o : Op} {t : TypeId} {pos : String} {after : Array Edge} {y : Nat → Option Bool} : Region.wanted ⟨d, o, t, pos, after, none⟩ y = true := rfl

theorem yielded_of {a : Act} (ha : At n l a) {j : Nat} {b : Bool} {d : Nat} (hd : (ops[j]?).bind (·.dst) = some d) (hv : l.get d = some (.bool b)) : yielded ops a.tmps j = some b := by
 have := ha.has d _ hv
 simp [yielded, hd, this]

theorem sr_ev {d : Nat} {o : Op} {t : TypeId} {pos : String} {after : Array Edge} {v : Value} (h : Ev P l o t w v) (hd : d < n) (hk : SR P Qr n ops rest (l.put d v) w) :
  SR P Qr n ops (⟨some d, o, t, pos, after, none⟩ :: rest) l w :=
 fun a ha => wpl_of_run wanted_none (h a n _ _ _ _ ha) (hk _ (ha.put v hd))

theorem sr_evg {d j : Nat} {b c : Bool} {o : Op} {t : TypeId} {pos : String} {after : Array Edge} {v : Value} {e : Nat} (he : (ops[j]?).bind (·.dst) = some e) (hb : l.get e = some (.bool c)) (hc : c = b)
  (h : Ev P l o t w v) (hd : d < n) (hk : SR P Qr n ops rest (l.put d v) w) :
  SR P Qr n ops (⟨some d, o, t, pos, after, some (j, b)⟩ :: rest) l w :=
 fun a ha => wpl_of_run (by simp [Region.wanted, yielded_of ha he hb, hc]) (h a n _ _ _ _ ha) (hk _ (ha.put v hd))

theorem sr_pass {d j : Nat} {b c : Bool} {o : Op} {t : TypeId} {pos : String} {after : Array Edge} {e : Nat} (he : (ops[j]?).bind (·.dst) = some e) (hb : l.get e = some (.bool c)) (hne : (some c == some b) = false)
  (hd : d < n) (hk : SR P Qr n ops rest (l.put d undef) w) :
  SR P Qr n ops (⟨some d, o, t, pos, after, some (j, b)⟩ :: rest) l w := by
 intro a ha
 have hw : Region.wanted ⟨some d, o, t, pos, after, some (j, b)⟩ (yielded ops a.tmps) = false := by
  simpa [Region.wanted, yielded_of ha he hb] using hne
 simp only [wpList, hw]
 exact hk _ (ha.put undef hd)
theorem sr_pass_undef {d j : Nat} {b : Bool} {o : Op} {t : TypeId} {pos : String} {after : Array Edge} {e : Nat} (he : (ops[j]?).bind (·.dst) = some e) (hb : l.get e = some undef)
  (hd : d < n) (hk : SR P Qr n ops rest (l.put d undef) w) :
  SR P Qr n ops (⟨some d, o, t, pos, after, some (j, b)⟩ :: rest) l w := by
 intro a ha
 have hw : Region.wanted ⟨some d, o, t, pos, after, some (j, b)⟩ (yielded ops a.tmps) = false := by
  have := ha.has e _ hb
  simp [Region.wanted, yielded, he, this, undef]
 simp only [wpList, hw]
 exact hk _ (ha.put undef hd)

theorem sr_join {α : Type} {C : α → World → Prop} {l' : α → Env} (m : Nat) (hK : ∀ x w', C x w' → SR P Qr n ops (rest.drop m) (l' x) w')
  (h : (∀ x w', C x w' → SR P Qr n ops (rest.drop m) (l' x) w') → SR P Qr n ops rest l w) : SR P Qr n ops rest l w := h hK

theorem map_look {a : Act} (ha : At n l a) : ∀ {xs : List Operand} {vs : List Value}, xs.map (look l) = vs.map some → xs.map a.eval = vs
 | [], [], _ => rfl
 | [], _ :: _, h => by simp at h
 | _ :: _, [], h => by simp at h
 | x :: xs, v :: vs, h => by
  simp only [List.map_cons, List.cons.injEq] at h
  simp only [List.map_cons, ha.look h.1, map_look ha h.2]
theorem map_looka {a : Act} (ha : At n l a) {xs : Array Operand} {vs : List Value} (h : xs.toList.map (look l) = vs.map some) : xs.map a.eval = vs.toArray := by
 apply Array.toList_inj.1
 simp only [Array.toList_map, map_look ha h]

theorem run_call {a : Act} (ha : At n l a) {fv : Operand} {g : FuncId} {as : Array Operand} {ts : Array TypeId} {t : TypeId} {pos : String} {after : Array Edge} {vs : List Value} {d : Option Tmp} {gd : Option (Nat × Bool)}
  (hv : look l fv = some (.func (.func g) #[] #[]))
  (hc : ∀ (args : Array Value) (w : World), (callFunc g args).run P w = .ok (.enter g args) w)
  (hargs : as.toList.map (look l) = vs.map some) :
  (execOp a.eval ⟨d, .call { callee := .value fv, args := as, argTypes := ts }, t, pos, after, gd⟩).run P w = .ok (.enter g vs.toArray) w := by
 simp [execOp, resolve, ha.look hv, Deferred.ofValue, map_looka ha hargs, invoke, hc]

theorem sr_call {d : Nat} {fv : Operand} {g : FuncId} {as : Array Operand} {ts : Array TypeId} {t : TypeId} {pos : String} {after : Array Edge} {vs : List Value}
  (hv : look l fv = some (.func (.func g) #[] #[]))
  (hc : ∀ (args : Array Value) (w : World), (callFunc g args).run P w = .ok (.enter g args) w)
  (hargs : as.toList.map (look l) = vs.map some) {Rc : Value → World → Prop}
  (h : Calls P g vs.toArray w (Ret Rc)) (hd : d < n) (hk : ∀ v w', Rc v w' → SR P Qr n ops rest (l.put d v) w') :
  SR P Qr n ops (⟨some d, .call { callee := .value fv, args := as, argTypes := ts }, t, pos, after, none⟩ :: rest) l w := by
 intro a ha
 simp only [wpList, wanted_none, if_true, Oper.wp, run_call ha hv hc hargs, Oper.upon_enter]
 refine .inl (h.mono ?_)
 rintro e w' ⟨v, rfl, hv⟩
 exact hk v w' hv _ (ha.put v hd)
theorem sr_callg {d j : Nat} {b c : Bool} {e : Nat} (he : (ops[j]?).bind (·.dst) = some e) (hb : l.get e = some (.bool c)) (hcb : c = b)
  {fv : Operand} {g : FuncId} {as : Array Operand} {ts : Array TypeId} {t : TypeId} {pos : String} {after : Array Edge} {vs : List Value}
  (hv : look l fv = some (.func (.func g) #[] #[]))
  (hc : ∀ (args : Array Value) (w : World), (callFunc g args).run P w = .ok (.enter g args) w)
  (hargs : as.toList.map (look l) = vs.map some) {Rc : Value → World → Prop}
  (h : Calls P g vs.toArray w (Ret Rc)) (hd : d < n) (hk : ∀ v w', Rc v w' → SR P Qr n ops rest (l.put d v) w') :
  SR P Qr n ops (⟨some d, .call { callee := .value fv, args := as, argTypes := ts }, t, pos, after, some (j, b)⟩ :: rest) l w := by
 intro a ha
 have hw : Region.wanted ⟨some d, .call { callee := .value fv, args := as, argTypes := ts }, t, pos, after, some (j, b)⟩ (yielded ops a.tmps) = true := by
  simp [Region.wanted, yielded_of ha he hb, hcb]
 simp only [wpList, hw, if_true, Oper.wp, run_call ha hv hc hargs, Oper.upon_enter]
 refine .inl (h.mono ?_)
 rintro e w' ⟨v, rfl, hv⟩
 exact hk v w' hv _ (ha.put v hd)

theorem calls_of_ke {fn : Func} {c : Code} {args : Array Value} {Rc : Ending → World → Prop} (hf : P.funcs[f]? = some fn) (hb : fn.body = some c) (hn : fn.ntmps = n)
  (hs : args.size.ble n = true) {l : Env} (hl : entry 0 args.toList = l) (h : KE P f Rc n [.code c] l w) : Calls P f args w Rc := by
 subst hl; subst hn
 exact calls_of_kwp hf hb (h _ (at_args (Nat.le_of_ble_eq_true hs)))
end
end Go.KW
