/- Ranges over strings, arrays that make lays, closures, and two library contracts more. -/
import Derived.Test.YtkhodjenbganfaaGreatDoorKwLib
import Derived.Laws.RangeAny
import Derived.Lib.ItoaNum
import Derived.Lib.LaidTab
import Derived.Lib.TrimByte
import Derived.WalkSmall
import Derived.Sort.Grow
import Derived.Sort.OwnSorted
import Derived.Sort.Walk0
namespace Go.KW
open Go Go.RowKit

section
variable {P : Program} {f : FuncId} {R : Ending → World → Prop} {n : Nat} {k : List Item} {Qr : Exit → Act → World → Prop} {l : Env} {w : World} {ops : Array Oper} {rest : List Oper} {t : TypeId}
variable {A : Nat → Prop} {B : Nat} {L : List (Nat × Obj)}

def sdec (s : Str) (p : Nat) : Int × Nat := ((Utf8.decode ⟨s.toArray⟩ p).1, (Utf8.decode ⟨s.toArray⟩ p).2)
theorem sr_range_s {d : Nat} {x : Operand} {U : TypeId} {s : Str} {pos : String} {after : Array Edge} (hH : Hp A B w L) (hB : B ≤ w.heap.size) (hlt : ∀ b, A b → b < w.heap.size) (hT : P.underlying U = some .string) (hx : look l x = some (str s)) (hd : d < n)
  (hk : ∀ g A' w', Hp A' B w' ((g, .stringIter ⟨s.toArray⟩ 0) :: L) → St A w A' w' → Below w.heap.size w w' → (∀ b, A b → A' b) → (∀ b, A' b → b < w'.heap.size) → w.heap.size ≤ g → SR P Qr n ops rest (l.put d (.pointer (some ⟨g, 0, none⟩))) w') :
  SR P Qr n ops (⟨some d, .range U x, t, pos, after, none⟩ :: rest) l w := by
 obtain ⟨h1, h2, h3⟩ := new_block (.stringIter ⟨s.toArray⟩ 0) hH hB hlt
 intro a ha
 refine wpl_of_run wanted_none (v := .pointer (some ⟨w.heap.size, 0, none⟩)) (w' := w.alloc (.stringIter ⟨s.toArray⟩ 0)) ?_ (hk _ _ _ h1 h2 (below_alloc w _) (fun _ h => .inl h) h3 (Nat.le_refl _) _ (ha.put _ hd))
 have h := run_range_string (P := P) w U ⟨s.toArray⟩ hT
 simp only [execOp, ha.look hx, str, Sem.run_bind, h, Result.andThen_ok, Sem.run_pure]
 rfl
def putObj (w : World) (g : Nat) (o : Obj) : World := { w with heap := w.heap.setIfInBounds g o }
theorem putObj_get {g : Nat} {o o' : Obj} (h : w.heap[g]? = some o) : (putObj w g o').heap[g]? = some o' := by
 have := (Array.getElem?_eq_some_iff.1 h).1
 simp [putObj, this]
theorem putObj_other {g b : Nat} {o' : Obj} (h : b ≠ g) : (putObj w g o').heap[b]? = w.heap[b]? := by
 simp [putObj, Array.getElem?_setIfInBounds_ne (Ne.symm h)]
theorem putObj_size {g : Nat} {o' : Obj} : (putObj w g o').heap.size = w.heap.size := by simp [putObj]
theorem wr_putObj {g : Nat} {o' : Obj} (hA : A g) : Wr A w (putObj w g o') g :=
 ⟨⟨fun b _ hna => putObj_other fun e => hna (e ▸ hA), by rw [putObj_size]; exact Nat.le_refl _, fun b h => .inl h⟩, rfl, rfl, rfl, putObj_size, fun b hb => putObj_other hb⟩
theorem run_setObj_iter {g p : Nat} {s : ByteArray} {o' : Obj} (h : w.heap[g]? = some (.stringIter s p)) : (setObj g o').run P w = .ok () (putObj w g o') := by
 simp [setObj, Sem.run, h, putObj]
theorem sr_next_s {d j g p : Nat} {x : Operand} {s : Str} {pos : String} {after : Array Edge} (hH : Hp A B w L) (hj : L[j]? = some (g, .stringIter ⟨s.toArray⟩ p)) (hx : look l x = some (.pointer (some ⟨g, 0, none⟩))) (hd : d < n)
  (ht : decide (p < s.length) = true → ∀ w', Hp A B w' (L.set j (g, .stringIter ⟨s.toArray⟩ (p + (sdec s p).2))) → Wr A w w' g → SR P Qr n ops rest (l.put d (.tuple #[.bool true, .int .i64 (p : Int), .int .i32 (sdec s p).1])) w')
  (hf : decide (p < s.length) = false → SR P Qr n ops rest (l.put d (.tuple #[.bool false])) w) :
  SR P Qr n ops (⟨some d, .next x true, t, pos, after, none⟩ :: rest) l w := by
 have hg := (hH.at hj).2
 intro a ha
 cases hp : decide (p < s.length) with
 | true =>
  have hp' : p < (⟨s.toArray⟩ : ByteArray).size := by rw [str_size]; exact of_decide_eq_true hp
  refine wpl_of_run wanted_none (v := .tuple #[.bool true, .int .i64 (p : Int), .int .i32 (sdec s p).1]) (w' := putObj w g (.stringIter ⟨s.toArray⟩ (p + (sdec s p).2))) ?_
   (ht hp _ (hH.set hj (putObj_get hg) fun b hb => putObj_other hb) (wr_putObj (hH.at hj).1) _ (ha.put _ hd))
  have hs := run_setObj_iter (P := P) (o' := .stringIter ⟨s.toArray⟩ (p + (Utf8.decode ⟨s.toArray⟩ p).2)) hg
  have hget : (getObj g).run P w = .ok (.stringIter ⟨s.toArray⟩ p) w := by simp [getObj, Sem.run, hg]
  simp only [execOp, ha.look hx, Instr.next, Sem.run_bind, hget, Result.andThen_ok, hp', if_true, hs, Sem.run_pure, goInt]
  rfl
 | false =>
  have hp' : ¬ p < (⟨s.toArray⟩ : ByteArray).size := by rw [str_size]; exact of_decide_eq_false hp
  refine wpl_of_run wanted_none (v := .tuple #[.bool false]) (w' := w) ?_ (hf hp _ (ha.put _ hd))
  have hget : (getObj g).run P w = .ok (.stringIter ⟨s.toArray⟩ p) w := by simp [getObj, Sem.run, hg]
  simp only [execOp, ha.look hx, Instr.next, Sem.run_bind, hget, Result.andThen_ok, hp', if_false, Sem.run_pure]

theorem sr_makeArr {d : Nat} {U E : TypeId} {m : Nat} {x y : Operand} {k1 k2 kk : IntKind} {xs : List Int} {pos : String} {after : Array Edge} (hH : Hp A B w L) (hB : B ≤ w.heap.size) (hlt : ∀ b, A b → b < w.heap.size)
  (hx : look l x = some (.int k1 m)) (hy : look l y = some (.int k2 m))
  (hrun : ∀ w, (Instr.makeSlice U (.int k1 m) (.int k2 m)).run P w = .ok (.slice (some ⟨w.heap.size, 0, none⟩) m m) (w.alloc (.cells (xs.map (Value.int kk)).toArray E))) (hd : d < n)
  (hk : ∀ g A' w', Hp A' B w' ((g, .cells (xs.map (Value.int kk)).toArray E (0, 0)) :: L) → St A w A' w' → Below w.heap.size w w' → (∀ b, A b → A' b) → (∀ b, A' b → b < w'.heap.size) → w.heap.size ≤ g → SR P Qr n ops rest (l.put d (.slice (some ⟨g, 0, none⟩) m m)) w') :
  SR P Qr n ops (⟨some d, .makeSlice U x y, t, pos, after, none⟩ :: rest) l w := by
 obtain ⟨h1, h2, h3⟩ := new_block (.cells (xs.map (Value.int kk)).toArray E) hH hB hlt
 intro a ha
 refine wpl_of_run wanted_none (v := .slice (some ⟨w.heap.size, 0, none⟩) m m) (w' := w.alloc (.cells (xs.map (Value.int kk)).toArray E)) ?_ (hk _ _ _ h1 h2 (below_alloc w _) (fun _ h => .inl h) h3 (Nat.le_refl _) _ (ha.put _ hd))
 simp only [execOp, ha.look hx, ha.look hy, Sem.run_bind, hrun, Result.andThen_ok, Sem.run_pure]
theorem ev_arrslindex {x y : Operand} {U E : TypeId} {m g : Nat} {kk : IntKind} {i : Int} {ti : TypeInfo} (hT : P.underlying U = some (.slice E)) (hE : P.info? E = some ti) (hs : ti.size = 1)
  (hx : look l x = some (.slice (some ⟨g, 0, none⟩) m m)) (hy : look l y = some (.int kk i)) (hb : inb i m = true) : Ev P l (.indexAddr U x y) t w (.pointer (some ⟨g, 0 + i.toNat * 1, none⟩)) := by
 intro d n e pos after gd ha
 have hi := inb_iff.1 hb
 simp [execOp, ha.look hx, ha.look hy, Instr.indexAt, asIntOf, run_underlying hT, hi, sizeOf_of hE, hs, addr_add]
theorem RwV.sl {v : Value} {g j : Nat} {xs : List Int} {ex : List Value} {tt : TypeId} (hv : RwV v g xs.length) (h : Hp A B w L) (hj : L[j]? = some (g, rowObj (Value.int .u8) xs ex tt)) : SlR (intC .u8) (fun _ => False) w v xs := by
 obtain ⟨cap, rfl, h1, h2⟩ := hv
 exact arr_sl rfl h hj rfl h1 h2

theorem Hp.el {T : Type} {c : Cdc T} {x : T} {i g : Nat} {cs : List Value} {tt : TypeId} {fr : Nat × Nat} (h : Hp A B w L) (hi : L[i]? = some (g, .cells cs.toArray tt fr)) (hr : c.rd (fun _ => False) w cs x) : ElR c (fun _ => False) w g 0 cs x :=
 ⟨hr, id, fun j u hj => by rw [Nat.zero_add]; exact h.cell hi (by simpa using hj)⟩
theorem ElR.weak {T : Type} {c : Cdc T} {A' : Nat → Prop} {b o : Nat} {cs : List Value} {x : T} (h : ElR c A w b o cs x) (s : ∀ b, A' b → A b) : ElR c A' w b o cs x :=
 ⟨c.step h.rd (.weak s), fun ha => h.av (s _ ha), h.cell⟩
theorem ElR.below {T : Type} {c : Cdc T} {w' : World} {b o : Nat} {cs : List Value} {x : T} (h : ElR c A w b o cs x) (s : Below w.heap.size w w') (h0 : 0 < cs.length) : ElR c A w' b o cs x := h.step (.of_below s) h0
theorem run_callc {a : Act} (ha : At n l a) {fv : Operand} {g : FuncId} {cap : Array Value} {av : Array Operand} {ts : Array TypeId} {t : TypeId} {pos : String} {after : Array Edge} {vs : List Value} {d : Option Tmp} {gd : Option (Nat × Bool)}
  (hv : look l fv = some (.func (.func g) #[] cap))
  (hc : ∀ (args : Array Value) (w : World), (callFunc g args).run P w = .ok (.enter g args) w)
  (hargs : av.toList.map (look l) = vs.map some) :
  (execOp a.eval ⟨d, .call { callee := .value fv, args := av, argTypes := ts }, t, pos, after, gd⟩).run P w = .ok (.enter g (vs ++ cap.toList).toArray) w := by
 simp [execOp, resolve, ha.look hv, Deferred.ofValue, map_looka ha hargs, invoke, hc]
theorem sr_callc {d : Nat} {fv : Operand} {g : FuncId} {cap : Array Value} {av : Array Operand} {ts : Array TypeId} {t : TypeId} {pos : String} {after : Array Edge} {vs : List Value}
  (hv : look l fv = some (.func (.func g) #[] cap))
  (hc : ∀ (args : Array Value) (w : World), (callFunc g args).run P w = .ok (.enter g args) w)
  (hargs : av.toList.map (look l) = vs.map some) {Rc : Value → World → Prop}
  (h : Calls P g (vs ++ cap.toList).toArray w (Ret Rc)) (hd : d < n) (hk : ∀ v w', Rc v w' → SR P Qr n ops rest (l.put d v) w') :
  SR P Qr n ops (⟨some d, .call { callee := .value fv, args := av, argTypes := ts }, t, pos, after, none⟩ :: rest) l w := by
 intro a ha
 simp only [wpList, wanted_none, if_true, Oper.wp, run_callc ha hv hc hargs, Oper.upon_enter]
 refine .inl (h.mono ?_)
 rintro e w' ⟨v, rfl, hv⟩
 exact hk v w' hv _ (ha.put v hd)
end

theorem tabIs_below {P : Program} {w w' : World} {name : String} {k : IntKind} {zs : List Int} (h : Lib.TabIs P w name k zs) (s : Below w.heap.size w w') : Lib.TabIs P w' name k zs := by
 unfold Lib.TabIs World.var? at h ⊢
 cases hg : P.globalNamed name with
 | none => rw [hg] at h; cases h
 | some g =>
  rw [hg] at h
  simp only [Option.bind_some] at h ⊢
  have hlt : g < w.heap.size := by
   cases hh : w.heap[g]? with
   | none => rw [hh] at h; cases h
   | some o => exact (Array.getElem?_eq_some_iff.1 hh).1
  rw [s.block g hlt]; exact h
theorem ev_makeFunc {P : Program} {l : Env} {w : World} {t : TypeId} {g : FuncId} {cs : Array Operand} {vs : List Value} (h : cs.toList.map (look l) = vs.map some) : Ev P l (.makeFunc (.func g) #[] cs) t w (.func (.func g) #[] vs.toArray) := by
 intro c n d pos after g ha
 simp [execOp, map_looka ha h, Instr.makeFunc]

section
variable {P : Program} {A : Nat → Prop} {w : World} {T : Type} {c : Cdc T} {v : Value} {xs : List T} {U E : TypeId} {i j : Int} {ti : TypeInfo}
end

def lib_Trim (s c : Str) : Option Str := chk (decide (c = [32]) && decide (s.length ≤ 9223372036854775807)) (some (Lib.trimB s 32))
theorem trim_ok {P : Program} {F : Nat}
  (h : ∀ (s : ByteArray) (c : UInt8), c.toNat < 128 → ∀ (w : World), s.size ≤ 9223372036854775807 →
   Calls P F #[.string s, .string ⟨#[c]⟩] w fun e w' => e = .returned (.string ⟨(Lib.trimB s.data.toList c).toArray⟩) ∧ (w' = w ∨ w' = w.drew))
  {w : World} {s c : Str} {r : Str} (hS : lib_Trim s c = some r) : Calls P F #[str s, str c] w (Ret fun v w' => v = str r ∧ Below w.heap.size w w') := by
 obtain ⟨hk, hS⟩ := chk_some hS
 simp only [Bool.and_eq_true, decide_eq_true_eq] at hk
 obtain ⟨hc, hl⟩ := hk
 cases hS
 subst hc
 refine (h ⟨s.toArray⟩ 32 (by decide) w (by rw [str_size]; exact hl)).mono ?_
 rintro e w' ⟨rfl, hw⟩
 refine ⟨_, rfl, rfl, ?_⟩
 rcases hw with rfl | rfl
 ·exact Below.refl _ _
 ·exact (Below.refl _ _).drew
def digs : Nat → Nat → Str
 | 0, _ => []
 | n + 1, u => if u < 10 then [UInt8.ofNat (48 + u)] else digs n (u / 10) ++ [UInt8.ofNat (48 + u % 10)]
theorem digs_more : ∀ (n u : Nat), u < 10 ^ n → digs n u = Lib.decDigits u ∨ n = 0
 | 0, _, _ => .inr rfl
 | n + 1, u, h => by
  refine .inl ?_
  unfold digs
  rw [Lib.decDigits]
  by_cases h10 : u < 10
  ·rw [if_pos h10, dif_pos h10]
  ·rw [if_neg h10, dif_neg h10]
   rcases digs_more n (u / 10) (by rw [Nat.div_lt_iff_lt_mul (by omega)]; rw [Nat.pow_succ] at h; exact h) with h1 | h1
   ·rw [h1]
   ·subst h1; simp at h; omega
def itoaS (n : Int) : Str := if n < 0 then 45 :: digs 20 n.natAbs else digs 20 n.toNat
theorem itoaS_eq {n : Int} (h0 : -9223372036854775808 ≤ n) (h1 : n ≤ 9223372036854775807) : itoaS n = Lib.itoa n := by
 unfold itoaS Lib.itoa
 rw [(digs_more 20 n.natAbs (by omega)).resolve_right (by omega), (digs_more 20 n.toNat (by omega)).resolve_right (by omega)]
def lib_Itoa (n : Int) : Option Str := chk (decide (-9223372036854775808 ≤ n) && decide (n ≤ 9223372036854775807)) (some (itoaS n))
theorem itoa_ok {P : Program} {F : Nat}
  (h : ∀ (n : Int) (w : World), -9223372036854775808 ≤ n → n ≤ 9223372036854775807 → Lib.TabIs P w "internal/strconv.uint64pow10" .u64 Lib.pow10Tab →
   Calls P F #[.int .i64 n] w fun e w' => e = .returned (.string ⟨(Lib.itoa n).toArray⟩) ∧ ∃ k os, w' = Sort.grow (w.drewN k) os)
  {w : World} (ht : Lib.TabIs P w "internal/strconv.uint64pow10" .u64 Lib.pow10Tab) {n : Int} {r : Str} (hS : lib_Itoa n = some r) : Calls P F #[.int .i64 n] w (Ret fun v w' => v = str r ∧ Below w.heap.size w w') := by
 obtain ⟨hk, hS⟩ := chk_some hS
 simp only [Bool.and_eq_true, decide_eq_true_eq] at hk
 cases hS
 refine (h n w hk.1 hk.2 ht).mono ?_
 rintro e w' ⟨rfl, k, os, rfl⟩
 refine ⟨_, rfl, by rw [itoaS_eq hk.1 hk.2]; rfl, ?_⟩
 refine below_drewN (B := w.heap.size) (Below.refl _ _) k |>.trans ⟨rfl, rfl, rfl, by simp [Sort.grow], fun j hj => ?_⟩
 simp only [Sort.grow]
 rw [Array.getElem?_append_left]
 exact hj

end Go.KW
