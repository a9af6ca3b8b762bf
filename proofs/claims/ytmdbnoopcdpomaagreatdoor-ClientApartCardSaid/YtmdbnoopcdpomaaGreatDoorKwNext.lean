/- Ranges over strings, arrays that make lays, closures, and two library contracts more. -/
import Derived.Test.YtmdbnoopcdpomaaGreatDoorKwLib
import Derived.Laws.RangeAny
import Derived.Lib.ItoaNum
import Derived.Lib.LaidTab
import Derived.Lib.TrimByte
import Derived.WalkSmall
import Derived.Sort.Grow
import Derived.Sort.OwnSorted
import Derived.Sort.Walk0
namespace Go.KW
open Go Go.RowKit

section
variable {P : Program} {f : FuncId} {R : Ending → World → Prop} {n : Nat} {k : List Item} {Qr : Exit → Act → World → Prop} {l : Env} {w : World} {ops : Array Oper} {rest : List Oper} {t : TypeId}
variable {A : Nat → Prop} {B : Nat} {L : List (Nat × Obj)}

/-! ### a range over a string -/
/-- the rune at a place, and its width -/
def sdec (s : Str) (p : Nat) : Int × Nat := ((Utf8.decode ⟨s.toArray⟩ p).1, (Utf8.decode ⟨s.toArray⟩ p).2)
theorem sr_range_s {d : Nat} {x : Operand} {U : TypeId} {s : Str} {pos : String} {after : Array Edge} (hH : Hp A B w L) (hB : B ≤ w.heap.size) (hlt : ∀ b, A b → b < w.heap.size) (hT : P.underlying U = some .string) (hx : look l x = some (str s)) (hd : d < n)
    (hk : ∀ g A' w', Hp A' B w' ((g, .stringIter ⟨s.toArray⟩ 0) :: L) → St A w A' w' → Below w.heap.size w w' → (∀ b, A b → A' b) → (∀ b, A' b → b < w'.heap.size) → w.heap.size ≤ g → SR P Qr n ops rest (l.put d (.pointer (some ⟨g, 0, none⟩))) w') :
    SR P Qr n ops (⟨some d, .range U x, t, pos, after, none⟩ :: rest) l w := by
  obtain ⟨h1, h2, h3⟩ := new_block (.stringIter ⟨s.toArray⟩ 0) hH hB hlt
  intro a ha
  refine wpl_of_run wanted_none (v := .pointer (some ⟨w.heap.size, 0, none⟩)) (w' := w.alloc (.stringIter ⟨s.toArray⟩ 0)) ?_ (hk _ _ _ h1 h2 (below_alloc w _) (fun _ h => .inl h) h3 (Nat.le_refl _) _ (ha.put _ hd))
  have h := run_range_string (P := P) w U ⟨s.toArray⟩ hT
  simp only [execOp, ha.look hx, str, Sem.run_bind, h, Result.andThen_ok, Sem.run_pure]
  rfl
/-- the world with another thing in one block -/
def putObj (w : World) (g : Nat) (o : Obj) : World := { w with heap := w.heap.setIfInBounds g o }
theorem putObj_get {g : Nat} {o o' : Obj} (h : w.heap[g]? = some o) : (putObj w g o').heap[g]? = some o' := by
  have := (Array.getElem?_eq_some_iff.1 h).1
  simp [putObj, this]
theorem putObj_other {g b : Nat} {o' : Obj} (h : b ≠ g) : (putObj w g o').heap[b]? = w.heap[b]? := by
  simp [putObj, Array.getElem?_setIfInBounds_ne (Ne.symm h)]
theorem putObj_size {g : Nat} {o' : Obj} : (putObj w g o').heap.size = w.heap.size := by simp [putObj]
theorem wr_putObj {g : Nat} {o' : Obj} (hA : A g) : Wr A w (putObj w g o') g :=
  ⟨⟨fun b _ hna => putObj_other fun e => hna (e ▸ hA), by rw [putObj_size]; exact Nat.le_refl _, fun b h => .inl h⟩, rfl, rfl, rfl, putObj_size, fun b hb => putObj_other hb⟩
theorem run_setObj_iter {g p : Nat} {s : ByteArray} {o' : Obj} (h : w.heap[g]? = some (.stringIter s p)) : (setObj g o').run P w = .ok () (putObj w g o') := by
  simp [setObj, Sem.run, h, putObj]
theorem sr_next_s {d j g p : Nat} {x : Operand} {s : Str} {pos : String} {after : Array Edge} (hH : Hp A B w L) (hj : L[j]? = some (g, .stringIter ⟨s.toArray⟩ p)) (hx : look l x = some (.pointer (some ⟨g, 0, none⟩))) (hd : d < n)
    (ht : decide (p < s.length) = true → ∀ w', Hp A B w' (L.set j (g, .stringIter ⟨s.toArray⟩ (p + (sdec s p).2))) → Wr A w w' g → SR P Qr n ops rest (l.put d (.tuple #[.bool true, .int .i64 (p : Int), .int .i32 (sdec s p).1])) w')
    (hf : decide (p < s.length) = false → SR P Qr n ops rest (l.put d (.tuple #[.bool false])) w) :
    SR P Qr n ops (⟨some d, .next x true, t, pos, after, none⟩ :: rest) l w := by
  have hg := (hH.at hj).2
  intro a ha
  cases hp : decide (p < s.length) with
  | true =>
    have hp' : p < (⟨s.toArray⟩ : ByteArray).size := by rw [str_size]; exact of_decide_eq_true hp
    refine wpl_of_run wanted_none (v := .tuple #[.bool true, .int .i64 (p : Int), .int .i32 (sdec s p).1]) (w' := putObj w g (.stringIter ⟨s.toArray⟩ (p + (sdec s p).2))) ?_
      (ht hp _ (hH.set hj (putObj_get hg) fun b hb => putObj_other hb) (wr_putObj (hH.at hj).1) _ (ha.put _ hd))
    have hs := run_setObj_iter (P := P) (o' := .stringIter ⟨s.toArray⟩ (p + (Utf8.decode ⟨s.toArray⟩ p).2)) hg
    have hget : (getObj g).run P w = .ok (.stringIter ⟨s.toArray⟩ p) w := by simp [getObj, Sem.run, hg]
    simp only [execOp, ha.look hx, Instr.next, Sem.run_bind, hget, Result.andThen_ok, hp', if_true, hs, Sem.run_pure, goInt]
    rfl
  | false =>
    have hp' : ¬ p < (⟨s.toArray⟩ : ByteArray).size := by rw [str_size]; exact of_decide_eq_false hp
    refine wpl_of_run wanted_none (v := .tuple #[.bool false]) (w' := w) ?_ (hf hp _ (ha.put _ hd))
    have hget : (getObj g).run P w = .ok (.stringIter ⟨s.toArray⟩ p) w := by simp [getObj, Sem.run, hg]
    simp only [execOp, ha.look hx, Instr.next, Sem.run_bind, hget, Result.andThen_ok, hp', if_false, Sem.run_pure]

/-! ### an array of numbers that make lays, as a slice -/
theorem sr_makeArr {d : Nat} {U E : TypeId} {m : Nat} {x y : Operand} {k1 k2 kk : IntKind} {xs : List Int} {pos : String} {after : Array Edge} (hH : Hp A B w L) (hB : B ≤ w.heap.size) (hlt : ∀ b, A b → b < w.heap.size)
    (hx : look l x = some (.int k1 m)) (hy : look l y = some (.int k2 m))
    (hrun : ∀ w, (Instr.makeSlice U (.int k1 m) (.int k2 m)).run P w = .ok (.slice (some ⟨w.heap.size, 0, none⟩) m m) (w.alloc (.cells (xs.map (Value.int kk)).toArray E))) (hd : d < n)
    (hk : ∀ g A' w', Hp A' B w' ((g, .cells (xs.map (Value.int kk)).toArray E (0, 0)) :: L) → St A w A' w' → Below w.heap.size w w' → (∀ b, A b → A' b) → (∀ b, A' b → b < w'.heap.size) → w.heap.size ≤ g → SR P Qr n ops rest (l.put d (.slice (some ⟨g, 0, none⟩) m m)) w') :
    SR P Qr n ops (⟨some d, .makeSlice U x y, t, pos, after, none⟩ :: rest) l w := by
  obtain ⟨h1, h2, h3⟩ := new_block (.cells (xs.map (Value.int kk)).toArray E) hH hB hlt
  intro a ha
  refine wpl_of_run wanted_none (v := .slice (some ⟨w.heap.size, 0, none⟩) m m) (w' := w.alloc (.cells (xs.map (Value.int kk)).toArray E)) ?_ (hk _ _ _ h1 h2 (below_alloc w _) (fun _ h => .inl h) h3 (Nat.le_refl _) _ (ha.put _ hd))
  simp only [execOp, ha.look hx, ha.look hy, Sem.run_bind, hrun, Result.andThen_ok, Sem.run_pure]
theorem ev_arrslindex {x y : Operand} {U E : TypeId} {m g : Nat} {kk : IntKind} {i : Int} {ti : TypeInfo} (hT : P.underlying U = some (.slice E)) (hE : P.info? E = some ti) (hs : ti.size = 1)
    (hx : look l x = some (.slice (some ⟨g, 0, none⟩) m m)) (hy : look l y = some (.int kk i)) (hb : inb i m = true) : Ev P l (.indexAddr U x y) t w (.pointer (some ⟨g, 0 + i.toNat * 1, none⟩)) := by
  intro d n e pos after gd ha
  have hi := inb_iff.1 hb
  simp [execOp, ha.look hx, ha.look hy, Instr.indexAt, asIntOf, run_underlying hT, hi, sizeOf_of hE, hs, addr_add]
theorem Hp.arrSl {kk : IntKind} (h : Hp A B w L) {j g m : Nat} {xs : List Int} {tt : TypeId} {fr : Nat × Nat} (hj : L[j]? = some (g, .cells (xs.map (Value.int kk)).toArray tt fr)) (hm : xs.length = m) (hmx : m.ble 1000000 = true) :
    SlR (intC kk) (fun _ => False) w (.slice (some ⟨g, 0, none⟩) m m) xs := by
  have hle := Nat.le_of_ble_eq_true hmx
  have h0 : L[j]? = some (g, .cells (xs.map (Value.int kk) ++ []).toArray tt fr) := by simpa using hj
  exact arr_sl rfl h h0 hm (Nat.le_refl _) (by simp only [maxLen]; omega)
theorem RwV.sl {v : Value} {g j : Nat} {xs : List Int} {ex : List Value} {tt : TypeId} (hv : RwV v g xs.length) (h : Hp A B w L) (hj : L[j]? = some (g, rowObj (Value.int .u8) xs ex tt)) : SlR (intC .u8) (fun _ => False) w v xs := by
  obtain ⟨cap, rfl, h1, h2⟩ := hv
  exact arr_sl rfl h hj rfl h1 h2

/-! ### closures: what they have captured is read -/
theorem Hp.el {T : Type} {c : Cdc T} {x : T} {i g : Nat} {cs : List Value} {tt : TypeId} {fr : Nat × Nat} (h : Hp A B w L) (hi : L[i]? = some (g, .cells cs.toArray tt fr)) (hr : c.rd (fun _ => False) w cs x) : ElR c (fun _ => False) w g 0 cs x :=
  ⟨hr, id, fun j u hj => by rw [Nat.zero_add]; exact h.cell hi (by simpa using hj)⟩
theorem ElR.weak {T : Type} {c : Cdc T} {A' : Nat → Prop} {b o : Nat} {cs : List Value} {x : T} (h : ElR c A w b o cs x) (s : ∀ b, A' b → A b) : ElR c A' w b o cs x :=
  ⟨c.step h.rd (.weak s), fun ha => h.av (s _ ha), h.cell⟩
theorem ElR.below {T : Type} {c : Cdc T} {w' : World} {b o : Nat} {cs : List Value} {x : T} (h : ElR c A w b o cs x) (s : Below w.heap.size w w') (h0 : 0 < cs.length) : ElR c A w' b o cs x := h.step (.of_below s) h0
theorem run_callc {a : Act} (ha : At n l a) {fv : Operand} {g : FuncId} {cap : Array Value} {av : Array Operand} {ts : Array TypeId} {t : TypeId} {pos : String} {after : Array Edge} {vs : List Value} {d : Option Tmp} {gd : Option (Nat × Bool)}
    (hv : look l fv = some (.func (.func g) #[] cap))
    (hc : ∀ (args : Array Value) (w : World), (callFunc g args).run P w = .ok (.enter g args) w)
    (hargs : av.toList.map (look l) = vs.map some) :
    (execOp a.eval ⟨d, .call { callee := .value fv, args := av, argTypes := ts }, t, pos, after, gd⟩).run P w = .ok (.enter g (vs ++ cap.toList).toArray) w := by
  simp [execOp, resolve, ha.look hv, Deferred.ofValue, map_looka ha hargs, invoke, hc]
theorem sr_callc {d : Nat} {fv : Operand} {g : FuncId} {cap : Array Value} {av : Array Operand} {ts : Array TypeId} {t : TypeId} {pos : String} {after : Array Edge} {vs : List Value}
    (hv : look l fv = some (.func (.func g) #[] cap))
    (hc : ∀ (args : Array Value) (w : World), (callFunc g args).run P w = .ok (.enter g args) w)
    (hargs : av.toList.map (look l) = vs.map some) {Rc : Value → World → Prop}
    (h : Calls P g (vs ++ cap.toList).toArray w (Ret Rc)) (hd : d < n) (hk : ∀ v w', Rc v w' → SR P Qr n ops rest (l.put d v) w') :
    SR P Qr n ops (⟨some d, .call { callee := .value fv, args := av, argTypes := ts }, t, pos, after, none⟩ :: rest) l w := by
  intro a ha
  simp only [wpList, wanted_none, if_true, Oper.wp, run_callc ha hv hc hargs, Oper.upon_enter]
  refine .inl (h.mono ?_)
  rintro e w' ⟨v, rfl, hv⟩
  exact hk v w' hv _ (ha.put v hd)
end

theorem tabIs_below {P : Program} {w w' : World} {name : String} {k : IntKind} {zs : List Int} (h : Lib.TabIs P w name k zs) (s : Below w.heap.size w w') : Lib.TabIs P w' name k zs := by
  unfold Lib.TabIs World.var? at h ⊢
  cases hg : P.globalNamed name with
  | none => rw [hg] at h; cases h
  | some g =>
    rw [hg] at h
    simp only [Option.bind_some] at h ⊢
    have hlt : g < w.heap.size := by
      cases hh : w.heap[g]? with
      | none => rw [hh] at h; cases h
      | some o => exact (Array.getElem?_eq_some_iff.1 hh).1
    rw [s.block g hlt]; exact h
/-- a closure is made -/
theorem ev_makeFunc {P : Program} {l : Env} {w : World} {t : TypeId} {g : FuncId} {cs : Array Operand} {vs : List Value} (h : cs.toList.map (look l) = vs.map some) : Ev P l (.makeFunc (.func g) #[] cs) t w (.func (.func g) #[] vs.toArray) := by
  intro c n d pos after g ha
  simp [execOp, map_looka ha h, Instr.makeFunc]

/-! ### a part of a slice, in a region that draws its order -/
section
variable {P : Program} {A : Nat → Prop} {w : World} {T : Type} {c : Cdc T} {v : Value} {xs : List T} {U E : TypeId} {i j : Int} {ti : TypeInfo}
theorem SlR.cutQ_lh (h : SlR c A w v xs) (hT : P.underlying U = some (.slice E)) (hE : P.info? E = some ti) (hs : ti.size = c.size) (hb : inc i j xs.length = true) :
    ∃ v', SlR c A w v' (cut xs i j) ∧ ∀ {l : Env} {x y z : Operand} {k1 k2 : IntKind} {t : TypeId} (w1 : World), look l x = some v → look l y = some (.int k1 i) → look l z = some (.int k2 j) → Ev P l (.slice U x (some y) (some z) none) t w1 v' := by
  obtain ⟨a, cap, hv, h1, _⟩ := h.shape
  refine ⟨_, h.cut_at hb ⟨a, cap, hv, by rw [← hs]⟩, fun {l x y z k1 k2 t} w1 hx hy hz e m d' pos' after' gd ha => ?_⟩
  subst hv
  have hi := inc_iff.1 hb
  have := run_slice_sl (P := P) (w := w1) (U := U) (a := a) (len := xs.length) (cap := cap) hT hE (lo := some (k1, i)) (hi := some (k2, j)) (i := i) (j := j) rfl rfl hi.1 hi.2.1 (by omega)
  simp only [Option.map_some] at this
  simp only [execOp, ha.look hx, ha.look hy, ha.look hz, Option.map_some, Option.map_none, Sem.run_bind, this, Result.andThen_ok, Sem.run_pure]
theorem SlR.cutQ_l (h : SlR c A w v xs) (hT : P.underlying U = some (.slice E)) (hE : P.info? E = some ti) (hs : ti.size = c.size) (hb : inc i xs.length xs.length = true) :
    ∃ v', SlR c A w v' (cut xs i xs.length) ∧ ∀ {l : Env} {x y : Operand} {k1 : IntKind} {t : TypeId} (w1 : World), look l x = some v → look l y = some (.int k1 i) → Ev P l (.slice U x (some y) none none) t w1 v' := by
  obtain ⟨a, cap, hv, h1, _⟩ := h.shape
  refine ⟨_, h.cut_at hb ⟨a, cap, hv, by rw [← hs]⟩, fun {l x y k1 t} w1 hx hy e m d' pos' after' gd ha => ?_⟩
  subst hv
  have hi := inc_iff.1 hb
  have := run_slice_sl (P := P) (w := w1) (U := U) (a := a) (len := xs.length) (cap := cap) hT hE (lo := some (k1, i)) (hi := none) (i := i) (j := xs.length) rfl rfl hi.1 hi.2.1 (by omega)
  simp only [Option.map_some, Option.map_none] at this
  simp only [execOp, ha.look hx, ha.look hy, Option.map_some, Option.map_none, Sem.run_bind, this, Result.andThen_ok, Sem.run_pure]
theorem SlR.cutQ_h (h : SlR c A w v xs) (hT : P.underlying U = some (.slice E)) (hE : P.info? E = some ti) (hs : ti.size = c.size) (hb : inc 0 j xs.length = true) :
    ∃ v', SlR c A w v' (cut xs 0 j) ∧ ∀ {l : Env} {x y : Operand} {k1 : IntKind} {t : TypeId} (w1 : World), look l x = some v → look l y = some (.int k1 j) → Ev P l (.slice U x none (some y) none) t w1 v' := by
  obtain ⟨a, cap, hv, h1, _⟩ := h.shape
  refine ⟨_, h.cut_at hb ⟨a, cap, hv, by rw [← hs]⟩, fun {l x y k1 t} w1 hx hy e m d' pos' after' gd ha => ?_⟩
  subst hv
  have hi := inc_iff.1 hb
  have := run_slice_sl (P := P) (w := w1) (U := U) (a := a) (len := xs.length) (cap := cap) hT hE (lo := none) (hi := some (k1, j)) (i := 0) (j := j) rfl rfl (Int.le_refl _) hi.2.1 (by omega)
  simp only [Option.map_some, Option.map_none] at this
  simp only [execOp, ha.look hx, ha.look hy, Option.map_some, Option.map_none, Sem.run_bind, this, Result.andThen_ok, Sem.run_pure]
end

/-! ### strings.Trim at one character, strconv.Itoa -/
/-- strings.Trim at a cutset of one character -/
def lib_Trim (s c : Str) : Option Str := chk (decide (c = [32]) && decide (s.length ≤ 9223372036854775807)) (some (Lib.trimB s 32))
theorem trim_ok {P : Program} {F : Nat}
    (h : ∀ (s : ByteArray) (c : UInt8), c.toNat < 128 → ∀ (w : World), s.size ≤ 9223372036854775807 →
      Calls P F #[.string s, .string ⟨#[c]⟩] w fun e w' => e = .returned (.string ⟨(Lib.trimB s.data.toList c).toArray⟩) ∧ (w' = w ∨ w' = w.drew))
    {w : World} {s c : Str} {r : Str} (hS : lib_Trim s c = some r) : Calls P F #[str s, str c] w (Ret fun v w' => v = str r ∧ Below w.heap.size w w') := by
  obtain ⟨hk, hS⟩ := chk_some hS
  simp only [Bool.and_eq_true, decide_eq_true_eq] at hk
  obtain ⟨hc, hl⟩ := hk
  cases hS
  subst hc
  refine (h ⟨s.toArray⟩ 32 (by decide) w (by rw [str_size]; exact hl)).mono ?_
  rintro e w' ⟨rfl, hw⟩
  refine ⟨_, rfl, rfl, ?_⟩
  rcases hw with rfl | rfl
  · exact Below.refl _ _
  · exact (Below.refl _ _).drew
/-- the digits of a number, with fuel -/
def digs : Nat → Nat → Str
  | 0, _ => []
  | n + 1, u => if u < 10 then [UInt8.ofNat (48 + u)] else digs n (u / 10) ++ [UInt8.ofNat (48 + u % 10)]
theorem digs_eq : ∀ (n u : Nat), u < n → digs n u = Lib.decDigits u
  | 0, _, h => by omega
  | n + 1, u, h => by
    unfold digs
    rw [Lib.decDigits]
    by_cases h10 : u < 10
    · rw [if_pos h10, dif_pos h10]
    · rw [if_neg h10, dif_neg h10, digs_eq n (u / 10) (by omega)]
theorem digs_more : ∀ (n u : Nat), u < 10 ^ n → digs n u = Lib.decDigits u ∨ n = 0
  | 0, _, _ => .inr rfl
  | n + 1, u, h => by
    refine .inl ?_
    unfold digs
    rw [Lib.decDigits]
    by_cases h10 : u < 10
    · rw [if_pos h10, dif_pos h10]
    · rw [if_neg h10, dif_neg h10]
      rcases digs_more n (u / 10) (by rw [Nat.div_lt_iff_lt_mul (by omega)]; rw [Nat.pow_succ] at h; exact h) with h1 | h1
      · rw [h1]
      · subst h1; simp at h; omega
/-- strconv.Itoa -/
def itoaS (n : Int) : Str := if n < 0 then 45 :: digs 20 n.natAbs else digs 20 n.toNat
theorem itoaS_eq {n : Int} (h0 : -9223372036854775808 ≤ n) (h1 : n ≤ 9223372036854775807) : itoaS n = Lib.itoa n := by
  unfold itoaS Lib.itoa
  rw [(digs_more 20 n.natAbs (by omega)).resolve_right (by omega), (digs_more 20 n.toNat (by omega)).resolve_right (by omega)]
def lib_Itoa (n : Int) : Option Str := chk (decide (-9223372036854775808 ≤ n) && decide (n ≤ 9223372036854775807)) (some (itoaS n))
theorem itoa_ok {P : Program} {F : Nat}
    (h : ∀ (n : Int) (w : World), -9223372036854775808 ≤ n → n ≤ 9223372036854775807 → Lib.TabIs P w "internal/strconv.uint64pow10" .u64 Lib.pow10Tab →
      Calls P F #[.int .i64 n] w fun e w' => e = .returned (.string ⟨(Lib.itoa n).toArray⟩) ∧ ∃ k os, w' = Sort.grow (w.drewN k) os)
    {w : World} (ht : Lib.TabIs P w "internal/strconv.uint64pow10" .u64 Lib.pow10Tab) {n : Int} {r : Str} (hS : lib_Itoa n = some r) : Calls P F #[.int .i64 n] w (Ret fun v w' => v = str r ∧ Below w.heap.size w w') := by
  obtain ⟨hk, hS⟩ := chk_some hS
  simp only [Bool.and_eq_true, decide_eq_true_eq] at hk
  cases hS
  refine (h n w hk.1 hk.2 ht).mono ?_
  rintro e w' ⟨rfl, k, os, rfl⟩
  refine ⟨_, rfl, by rw [itoaS_eq hk.1 hk.2]; rfl, ?_⟩
  refine below_drewN (B := w.heap.size) (Below.refl _ _) k |>.trans ⟨rfl, rfl, rfl, by simp [Sort.grow], fun j hj => ?_⟩
  simp only [Sort.grow]
  rw [Array.getElem?_append_left]
  exact hj

/-! ### slices.Clone, slices.Delete at strings -/
def lib_Clone (xs : List Str) : Option (List Str) := chk (decide (xs.length ≤ 8796093022208)) (some xs)
/-- a fresh slice of the caller's own -/
def Fresh {T : Type} (c : Cdc T) (E : TypeId) (A : Nat → Prop) (B : Nat) (w : World) (xs : List T) : Value → World → Prop := fun v w' =>
  ∃ A', OwnS c E A' B w' v xs ∧ St A w A' w' ∧ Below w.heap.size w w' ∧ (∀ b, A b → A' b) ∧ (∀ b, A' b → b < w'.heap.size) ∧ ∀ b, v.ownBlock = some b → w.heap.size ≤ b
theorem ownS_str {E : TypeId} {A : Nat → Prop} {B : Nat} {w : World} {v : Value} {xs : List Str} (h : w.ownsRow B E 1 v xs.length (xs.map str)) (hA : ∀ g, v.ownBlock = some g → A g) : OwnS strC E A B w v xs :=
  ⟨xs.map str, h, hA, fun i x hx => by
    show seg _ _ 1 = [str x]
    have h4 : (xs.map str)[i]? = some (str x) := by simp [hx]
    obtain ⟨h5, h6⟩ := List.getElem?_eq_some_iff.1 h4
    have hd := List.drop_eq_getElem_cons h5
    show ((xs.map str).drop (i * 1)).take 1 = [str x]
    rw [Nat.mul_one, hd, h6, List.take_succ_cons, List.take_zero]⟩
theorem ownsRow_base {w : World} {B B' : Nat} {E : TypeId} {size n : Nat} {v : Value} {cells : List Value} (h : w.ownsRow B E size v n cells) (hB : B' ≤ B) : w.ownsRow B' E size v n cells := by
  refine ⟨h.1, ?_⟩
  rcases h.2 with h1 | ⟨g, cap, cur, h1, h2, r⟩
  · exact .inl h1
  · exact .inr ⟨g, cap, cur, h1, Nat.le_trans hB h2, r⟩
theorem clone_ok {P : Program} {F E : Nat}
    (h : ∀ (b off n c : Nat) (zs : List ByteArray) (w : World), n ≤ zs.length → n * 16 ≤ 140737488355328 → (∀ j, j < zs.length → w.cell? ⟨b, off + j, none⟩ = some (.string (zs.getD j ByteArray.empty))) →
      Calls P F #[.slice (some ⟨b, off, none⟩) n c] w fun e w' => ∃ v', e = .returned v' ∧ w'.ownsRow w.heap.size E 1 v' n ((zs.take n).map (Value.string)) ∧ v' ≠ .slice none 0 0 ∧ Below w.heap.size w w')
    (h0 : ∀ (n c : Nat) (w : World), Calls P F #[.slice none n c] w fun e w' => e = .returned (.slice none 0 0) ∧ w' = w)
    (hz : ∀ (a : Addr) (c : Nat) (w : World), Calls P F #[.slice (some a) 0 c] w fun e w' => ∃ v', e = .returned v' ∧ w'.ownsRow w.heap.size E 1 v' 0 [] ∧ v' ≠ .slice none 0 0 ∧ Below w.heap.size w w')
    {w : World} {A A1 : Nat → Prop} {B : Nat} {v : Value} {xs r : List Str} (hv : SlR strC A1 w v xs) (hA : ∀ b, A b → b < w.heap.size) (hB : B ≤ w.heap.size) (hS : lib_Clone xs = some r) :
    Calls P F #[v] w (Ret (Fresh strC E A B w r)) := by
  obtain ⟨hk, hS⟩ := chk_some hS
  simp only [decide_eq_true_eq] at hk
  cases hS
  have fin : ∀ (u : Value) (w' : World), w'.ownsRow w.heap.size E 1 u xs.length (xs.map str) → Below w.heap.size w w' → Fresh strC E A B w xs u w' := by
    intro u w' ho hb
    have hlt := ho.lt
    refine ⟨fun b => A b ∨ u.ownBlock = some b, ownS_str (ownsRow_base ho hB) (fun g hg => .inr hg), ⟨fun b h1 _ => hb.block b h1, hb.size, fun b h1 => h1.imp id fun h1 => (hlt b h1).1⟩, hb, fun b h => .inl h, fun b h1 => ?_, fun b h1 => (hlt b h1).1⟩
    rcases h1 with h1 | h1
    · have := hA b h1; have := hb.size; omega
    · exact (hlt b h1).2
  rcases hv with ⟨rfl, rfl | ⟨a0, cap0, rfl, hc0⟩⟩ | ⟨b, o, cap, cells, E', fr, rfl, hAb, hb, hl, hc, hrd⟩
  · refine (h0 0 0 w).mono ?_
    rintro e w' ⟨rfl, rfl⟩
    exact ⟨_, rfl, fin _ _ (World.ownsRow_nil _ _ _ _) (Below.refl _ _)⟩
  · refine (hz a0 cap0 w).mono ?_
    rintro e w' ⟨v', rfl, ho, _, hbw⟩
    exact ⟨_, rfl, fin _ _ ho hbw⟩
  · have hcells : ∀ j, j < (xs.map fun x => (⟨x.toArray⟩ : ByteArray)).length → w.cell? ⟨b, o + j, none⟩ = some (.string ((xs.map fun x => (⟨x.toArray⟩ : ByteArray)).getD j ByteArray.empty)) := by
      intro j hj
      have hj' : j < xs.length := by simpa using hj
      have h1 : seg cells.toList (o + j * 1) 1 = [str xs[j]] := hrd j _ (List.getElem?_eq_getElem hj')
      have h2 := seg_get (j := 0) (u := str xs[j]) (by rw [h1]; rfl)
      simp only [World.cell?, hb]
      simpa [str, hj'] using h2
    refine (h b o xs.length cap _ w (by simp) (by omega) hcells).mono ?_
    rintro e w' ⟨v', rfl, ho, _, hbw⟩
    refine ⟨_, rfl, fin _ _ ?_ hbw⟩
    have e1 : ((xs.map fun x => (⟨x.toArray⟩ : ByteArray)).take xs.length).map Value.string = xs.map str := by
      rw [List.take_of_length_le (by simp), List.map_map]; rfl
    rwa [e1] at ho
def lib_Delete (xs : List Str) (i j : Int) : Option (List Str) := chk (inc i j xs.length) (some (xs.take i.toNat ++ xs.drop j.toNat))
theorem ownsRow_shrink {w : World} {B E size n m g cap : Nat} {cells : List Value} (h : w.ownsRow B E size (.slice (some ⟨g, 0, none⟩) n cap) n cells) (hm : m ≤ n) : w.ownsRow B E size (.slice (some ⟨g, 0, none⟩) m cap) m (cells.take (m * size)) := by
  have hml : m * size ≤ n * size := Nat.mul_le_mul_right _ hm
  refine ⟨by rw [List.length_take, h.1]; omega, .inr ?_⟩
  rcases h.2 with ⟨h1, _⟩ | ⟨g', cap', cur, h1, h2, h3, h4, h5, h6, h7⟩
  · cases h1
  · cases h1
    refine ⟨g, cap, cur, rfl, h2, h3, by omega, h5, h6, ?_⟩
    rw [← h7, List.take_take, Nat.min_eq_left hml]
theorem delete_ok {P : Program} {F : Nat}
    (h : ∀ (blk off cap i j : Nat) (zs : List (List UInt8)) (w : World), Sort.Holds Go.Proofs.encStr w blk off zs.toArray → zs.length ≤ cap → cap ≤ 9223372036854775807 → i ≤ j → j ≤ zs.length →
      Calls P F #[.slice (some ⟨blk, off, none⟩) zs.length cap, .int .i64 i, .int .i64 j] w fun e w' => e = .returned (.slice (some ⟨blk, off, none⟩) (zs.length - (j - i)) cap) ∧ ∃ q, w' = Sort.putRow Go.Proofs.encStr (Sort.ahead w q) blk off (zs.take i ++ zs.drop j ++ List.replicate (j - i) []).toArray)
    (h0 : ∀ (a : Option Addr) (c : Nat) (w : World), Calls P F #[.slice a 0 c, .int .i64 0, .int .i64 0] w fun e w' => e = .returned (.slice a 0 c) ∧ w' = w)
    {w : World} {A : Nat → Prop} {B : Nat} {E : TypeId} {xs ys : List Str} {i j : Int} {v : Value} (hv : OwnS strC E A B w v xs) (hB : B ≤ w.heap.size) (hS : lib_Delete xs i j = some ys) :
    Calls P F #[v, .int .i64 i, .int .i64 j] w (Ret fun u w' => OwnS strC E A B w' u ys ∧ St A w A w' ∧ Below B w w' ∧ (∀ b, b < w.heap.size → v.ownBlock ≠ some b → w'.heap[b]? = w.heap[b]?) ∧ ∀ b, u.ownBlock = some b → v.ownBlock = some b) := by
  obtain ⟨hk, hS⟩ := chk_some hS
  cases hS
  have hi := inc_iff.1 hk
  obtain ⟨i, rfl⟩ : ∃ k : Nat, i = k := ⟨i.toNat, by omega⟩
  obtain ⟨j, rfl⟩ : ∃ k : Nat, j = k := ⟨j.toNat, by omega⟩
  obtain ⟨cells, h1, h2, h3⟩ := hv
  have hcells : cells = xs.map str := by
    have hl : cells.length = xs.length := by have := h1.1; simpa [strC, Cdc.flat] using this
    apply List.ext_getElem?
    intro i
    rw [List.getElem?_map]
    cases hx : xs[i]? with
    | none => rw [List.getElem?_eq_none_iff] at hx; simp; omega
    | some x =>
      have h4 : seg cells (i * 1) 1 = [str x] := h3 i x hx
      have h5 := seg_get (j := 0) (u := str x) (by rw [h4]; rfl)
      simpa using h5
  subst hcells
  rcases h1.2 with ⟨rfl, hn⟩ | ⟨g, cap, cur, rfl, hbg, hg, hnc, hcm, hcs, htake⟩
  · have : xs = [] := List.eq_nil_of_length_eq_zero hn
    subst this
    have hi0 : i = 0 := by simp at hi; omega
    have hj0 : j = 0 := by simp at hi; omega
    subst hi0; subst hj0
    refine (h0 none 0 w).mono ?_
    rintro e w' ⟨rfl, rfl⟩
    exact ⟨_, rfl, by simpa using OwnS.nil, ⟨fun _ _ _ => rfl, Nat.le_refl _, fun _ h => .inl h⟩, Below.refl _ _, fun _ _ _ => rfl, fun _ h => h⟩
  · have hlt := (Array.getElem?_eq_some_iff.1 hg).1
    have htake' : cur.toList.take xs.length = xs.map Go.Proofs.encStr := by
      have : xs.length * strC.size = xs.length := Nat.mul_one _
      rw [this] at htake; exact htake
    have hcs' : cur.size = cap * 1 := hcs
    refine (h g 0 cap i j xs w (Go.holds_of_block hg htake') hnc (by simpa [maxLen] using hcm) (by omega) (by omega)).mono ?_
    rintro e w' ⟨rfl, m, rfl⟩
    have hlen : (xs.take i ++ xs.drop j ++ List.replicate (j - i) []).length = xs.length := by simp; omega
    have e0 : ∀ w1 : World, Sort.grow w1 #[] = w1 := fun w1 => by simp [Sort.grow]
    have hown := Go.ownsRow_sorted (n := m) (os := #[]) hlen hbg hg hnc hcm hcs'
    rw [e0] at hown
    have hgr : w.grownBy (Sort.putRow Go.Proofs.encStr (Sort.ahead w m) g 0 (xs.take i ++ xs.drop j ++ List.replicate (j - i) []).toArray) (some g) := by
      have := Go.grownBy_sorted (w := w) (g := g) (n := m) (os := #[]) (xs.take i ++ xs.drop j ++ List.replicate (j - i) []).toArray
      rwa [e0] at this
    have hst : St A w A (Sort.putRow Go.Proofs.encStr (Sort.ahead w m) g 0 (xs.take i ++ xs.drop j ++ List.replicate (j - i) []).toArray) :=
      ⟨fun b hb hA => hgr.block b hb (fun e => by have := h2 g rfl; simp at e; subst e; exact hA this), hgr.size, fun _ h => .inl h⟩
    have hl2 : (xs.take i ++ xs.drop j).length = xs.length - (j - i) := by simp; omega
    have hsh := ownsRow_shrink (m := xs.length - (j - i)) hown (by omega)
    refine ⟨_, rfl, ?_, hst, (Below.refl B w).grown hgr hB (fun k e => by simp at e; omega), fun b hb hne => hgr.block b hb (fun e => hne (by simpa [Value.ownBlock] using e.symm)), fun _ h => h⟩
    refine ownS_str ?_ h2
    simp only [Int.toNat_natCast]
    rw [hl2]
    have e2 : ((xs.take i ++ xs.drop j ++ List.replicate (j - i) []).map Go.Proofs.encStr).take ((xs.length - (j - i)) * 1) = (xs.take i ++ xs.drop j).map str := by
      rw [Nat.mul_one, ← List.map_take, List.take_append_of_le_length (by omega), List.take_of_length_le (by omega)]
      rfl
    rwa [e2] at hsh
end Go.KW
