/- Ranges over strings, arrays that make lays, closures, and two library contracts more. -/
import Derived.Test.YtmdbnoopcdpomaaGreatDoorKwLib
import Derived.Laws.RangeAny
import Derived.Lib.ItoaNum
import Derived.Lib.LaidTab
import Derived.Lib.TrimByte
import Derived.WalkSmall
import Derived.Sort.Grow
import Derived.Sort.OwnSorted
import Derived.Sort.Walk0
namespace Go.KW
open Go Go.RowKit

section
variable {P : Program} {f : FuncId} {R : Ending → World → Prop} {n : Nat} {k : List Item} {Qr : Exit → Act → World → Prop} {l : Env} {w : World} {ops : Array Oper} {rest : List Oper} {t : TypeId}
variable {A : Nat → Prop} {B : Nat} {L : List (Nat × Obj)}

/-! ### a range over a string -/
/-- the rune at a place, and its width -/
def sdec (s : Str) (p : Nat) : Int × Nat := ((Utf8.decode ⟨s.toArray⟩ p).1, (Utf8.decode ⟨s.toArray⟩ p).2)
theorem sr_range_s {d : Nat} {x : Operand} {U : TypeId} {s : Str} {pos : String} {after : Array Edge} (hH : Hp A B w L) (hB : B ≤ w.heap.size) (hlt : ∀ b, A b → b < w.heap.size) (hT : P.underlying U = some .string) (hx : look l x = some (str s)) (hd : d < n)
    (hk : ∀ g A' w', Hp A' B w' ((g, .stringIter ⟨s.toArray⟩ 0) :: L) → St A w A' w' → Below w.heap.size w w' → (∀ b, A b → A' b) → (∀ b, A' b → b < w'.heap.size) → w.heap.size ≤ g → SR P Qr n ops rest (l.put d (.pointer (some ⟨g, 0, none⟩))) w') :
    SR P Qr n ops (⟨some d, .range U x, t, pos, after, none⟩ :: rest) l w := by
  obtain ⟨h1, h2, h3⟩ := new_block (.stringIter ⟨s.toArray⟩ 0) hH hB hlt
  intro a ha
  refine wpl_of_run wanted_none (v := .pointer (some ⟨w.heap.size, 0, none⟩)) (w' := w.alloc (.stringIter ⟨s.toArray⟩ 0)) ?_ (hk _ _ _ h1 h2 (below_alloc w _) (fun _ h => .inl h) h3 (Nat.le_refl _) _ (ha.put _ hd))
  have h := run_range_string (P := P) w U ⟨s.toArray⟩ hT
  simp only [execOp, ha.look hx, str, Sem.run_bind, h, Result.andThen_ok, Sem.run_pure]
  rfl
/-- the world with another thing in one block -/
def putObj (w : World) (g : Nat) (o : Obj) : World := { w with heap := w.heap.setIfInBounds g o }
theorem putObj_get {g : Nat} {o o' : Obj} (h : w.heap[g]? = some o) : (putObj w g o').heap[g]? = some o' := by
  have := (Array.getElem?_eq_some_iff.1 h).1
  simp [putObj, this]
theorem putObj_other {g b : Nat} {o' : Obj} (h : b ≠ g) : (putObj w g o').heap[b]? = w.heap[b]? := by
  simp [putObj, Array.getElem?_setIfInBounds_ne (Ne.symm h)]
theorem putObj_size {g : Nat} {o' : Obj} : (putObj w g o').heap.size = w.heap.size := by simp [putObj]
theorem wr_putObj {g : Nat} {o' : Obj} (hA : A g) : Wr A w (putObj w g o') g :=
  ⟨⟨fun b _ hna => putObj_other fun e => hna (e ▸ hA), by rw [putObj_size]; exact Nat.le_refl _, fun b h => .inl h⟩, rfl, rfl, rfl, putObj_size, fun b hb => putObj_other hb⟩
theorem run_setObj_iter {g p : Nat} {s : ByteArray} {o' : Obj} (h : w.heap[g]? = some (.stringIter s p)) : (setObj g o').run P w = .ok () (putObj w g o') := by
  simp [setObj, Sem.run, h, putObj]
theorem sr_next_s {d j g p : Nat} {x : Operand} {s : Str} {pos : String} {after : Array Edge} (hH : Hp A B w L) (hj : L[j]? = some (g, .stringIter ⟨s.toArray⟩ p)) (hx : look l x = some (.pointer (some ⟨g, 0, none⟩))) (hd : d < n)
    (ht : decide (p < s.length) = true → ∀ w', Hp A B w' (L.set j (g, .stringIter ⟨s.toArray⟩ (p + (sdec s p).2))) → Wr A w w' g → SR P Qr n ops rest (l.put d (.tuple #[.bool true, .int .i64 (p : Int), .int .i32 (sdec s p).1])) w')
    (hf : decide (p < s.length) = false → SR P Qr n ops rest (l.put d (.tuple #[.bool false])) w) :
    SR P Qr n ops (⟨some d, .next x true, t, pos, after, none⟩ :: rest) l w := by
  have hg := (hH.at hj).2
  intro a ha
  cases hp : decide (p < s.length) with
  | true =>
    have hp' : p < (⟨s.toArray⟩ : ByteArray).size := by rw [str_size]; exact of_decide_eq_true hp
    refine wpl_of_run wanted_none (v := .tuple #[.bool true, .int .i64 (p : Int), .int .i32 (sdec s p).1]) (w' := putObj w g (.stringIter ⟨s.toArray⟩ (p + (sdec s p).2))) ?_
      (ht hp _ (hH.set hj (putObj_get hg) fun b hb => putObj_other hb) (wr_putObj (hH.at hj).1) _ (ha.put _ hd))
    have hs := run_setObj_iter (P := P) (o' := .stringIter ⟨s.toArray⟩ (p + (Utf8.decode ⟨s.toArray⟩ p).2)) hg
    have hget : (getObj g).run P w = .ok (.stringIter ⟨s.toArray⟩ p) w := by simp [getObj, Sem.run, hg]
    simp only [execOp, ha.look hx, Instr.next, Sem.run_bind, hget, Result.andThen_ok, hp', if_true, hs, Sem.run_pure, goInt]
    rfl
  | false =>
    have hp' : ¬ p < (⟨s.toArray⟩ : ByteArray).size := by rw [str_size]; exact of_decide_eq_false hp
    refine wpl_of_run wanted_none (v := .tuple #[.bool false]) (w' := w) ?_ (hf hp _ (ha.put _ hd))
    have hget : (getObj g).run P w = .ok (.stringIter ⟨s.toArray⟩ p) w := by simp [getObj, Sem.run, hg]
    simp only [execOp, ha.look hx, Instr.next, Sem.run_bind, hget, Result.andThen_ok, hp', if_false, Sem.run_pure]

theorem RwV.sl {v : Value} {g j : Nat} {xs : List Int} {ex : List Value} {tt : TypeId} (hv : RwV v g xs.length) (h : Hp A B w L) (hj : L[j]? = some (g, rowObj (Value.int .u8) xs ex tt)) : SlR (intC .u8) (fun _ => False) w v xs := by
  obtain ⟨cap, rfl, h1, h2⟩ := hv
  exact arr_sl rfl h hj rfl h1 h2

/-! ### closures: what they have captured is read -/
theorem Hp.el {T : Type} {c : Cdc T} {x : T} {i g : Nat} {cs : List Value} {tt : TypeId} {fr : Nat × Nat} (h : Hp A B w L) (hi : L[i]? = some (g, .cells cs.toArray tt fr)) (hr : c.rd (fun _ => False) w cs x) : ElR c (fun _ => False) w g 0 cs x :=
  ⟨hr, id, fun j u hj => by rw [Nat.zero_add]; exact h.cell hi (by simpa using hj)⟩
theorem ElR.weak {T : Type} {c : Cdc T} {A' : Nat → Prop} {b o : Nat} {cs : List Value} {x : T} (h : ElR c A w b o cs x) (s : ∀ b, A' b → A b) : ElR c A' w b o cs x :=
  ⟨c.step h.rd (.weak s), fun ha => h.av (s _ ha), h.cell⟩
theorem ElR.below {T : Type} {c : Cdc T} {w' : World} {b o : Nat} {cs : List Value} {x : T} (h : ElR c A w b o cs x) (s : Below w.heap.size w w') (h0 : 0 < cs.length) : ElR c A w' b o cs x := h.step (.of_below s) h0
end

/-! ### a part of a slice, in a region that draws its order -/
section
variable {P : Program} {A : Nat → Prop} {w : World} {T : Type} {c : Cdc T} {v : Value} {xs : List T} {U E : TypeId} {i j : Int} {ti : TypeInfo}
end

/-! ### strings.Trim at one character, strconv.Itoa -/
/-- strings.Trim at a cutset of one character -/
def lib_Trim (s c : Str) : Option Str := chk (decide (c = [32]) && decide (s.length ≤ 9223372036854775807)) (some (Lib.trimB s 32))
theorem trim_ok {P : Program} {F : Nat}
    (h : ∀ (s : ByteArray) (c : UInt8), c.toNat < 128 → ∀ (w : World), s.size ≤ 9223372036854775807 →
      Calls P F #[.string s, .string ⟨#[c]⟩] w fun e w' => e = .returned (.string ⟨(Lib.trimB s.data.toList c).toArray⟩) ∧ (w' = w ∨ w' = w.drew))
    {w : World} {s c : Str} {r : Str} (hS : lib_Trim s c = some r) : Calls P F #[str s, str c] w (Ret fun v w' => v = str r ∧ Below w.heap.size w w') := by
  obtain ⟨hk, hS⟩ := chk_some hS
  simp only [Bool.and_eq_true, decide_eq_true_eq] at hk
  obtain ⟨hc, hl⟩ := hk
  cases hS
  subst hc
  refine (h ⟨s.toArray⟩ 32 (by decide) w (by rw [str_size]; exact hl)).mono ?_
  rintro e w' ⟨rfl, hw⟩
  refine ⟨_, rfl, rfl, ?_⟩
  rcases hw with rfl | rfl
  · exact Below.refl _ _
  · exact (Below.refl _ _).drew
/-! ### slices.Clone, slices.Delete at strings -/
def lib_Clone (xs : List Str) : Option (List Str) := chk (decide (xs.length ≤ 8796093022208)) (some xs)
/-- a fresh slice of the caller's own -/
def Fresh {T : Type} (c : Cdc T) (E : TypeId) (A : Nat → Prop) (B : Nat) (w : World) (xs : List T) : Value → World → Prop := fun v w' =>
  ∃ A', OwnS c E A' B w' v xs ∧ St A w A' w' ∧ Below w.heap.size w w' ∧ (∀ b, A b → A' b) ∧ (∀ b, A' b → b < w'.heap.size) ∧ ∀ b, v.ownBlock = some b → w.heap.size ≤ b
theorem ownS_str {E : TypeId} {A : Nat → Prop} {B : Nat} {w : World} {v : Value} {xs : List Str} (h : w.ownsRow B E 1 v xs.length (xs.map str)) (hA : ∀ g, v.ownBlock = some g → A g) : OwnS strC E A B w v xs :=
  ⟨xs.map str, h, hA, fun i x hx => by
    show seg _ _ 1 = [str x]
    have h4 : (xs.map str)[i]? = some (str x) := by simp [hx]
    obtain ⟨h5, h6⟩ := List.getElem?_eq_some_iff.1 h4
    have hd := List.drop_eq_getElem_cons h5
    show ((xs.map str).drop (i * 1)).take 1 = [str x]
    rw [Nat.mul_one, hd, h6, List.take_succ_cons, List.take_zero]⟩
theorem ownsRow_base {w : World} {B B' : Nat} {E : TypeId} {size n : Nat} {v : Value} {cells : List Value} (h : w.ownsRow B E size v n cells) (hB : B' ≤ B) : w.ownsRow B' E size v n cells := by
  refine ⟨h.1, ?_⟩
  rcases h.2 with h1 | ⟨g, cap, cur, h1, h2, r⟩
  · exact .inl h1
  · exact .inr ⟨g, cap, cur, h1, Nat.le_trans hB h2, r⟩
theorem clone_ok {P : Program} {F E : Nat}
    (h : ∀ (b off n c : Nat) (zs : List ByteArray) (w : World), n ≤ zs.length → n * 16 ≤ 140737488355328 → (∀ j, j < zs.length → w.cell? ⟨b, off + j, none⟩ = some (.string (zs.getD j ByteArray.empty))) →
      Calls P F #[.slice (some ⟨b, off, none⟩) n c] w fun e w' => ∃ v', e = .returned v' ∧ w'.ownsRow w.heap.size E 1 v' n ((zs.take n).map (Value.string)) ∧ v' ≠ .slice none 0 0 ∧ Below w.heap.size w w')
    (h0 : ∀ (n c : Nat) (w : World), Calls P F #[.slice none n c] w fun e w' => e = .returned (.slice none 0 0) ∧ w' = w)
    (hz : ∀ (a : Addr) (c : Nat) (w : World), Calls P F #[.slice (some a) 0 c] w fun e w' => ∃ v', e = .returned v' ∧ w'.ownsRow w.heap.size E 1 v' 0 [] ∧ v' ≠ .slice none 0 0 ∧ Below w.heap.size w w')
    {w : World} {A A1 : Nat → Prop} {B : Nat} {v : Value} {xs r : List Str} (hv : SlR strC A1 w v xs) (hA : ∀ b, A b → b < w.heap.size) (hB : B ≤ w.heap.size) (hS : lib_Clone xs = some r) :
    Calls P F #[v] w (Ret (Fresh strC E A B w r)) := by
  obtain ⟨hk, hS⟩ := chk_some hS
  simp only [decide_eq_true_eq] at hk
  cases hS
  have fin : ∀ (u : Value) (w' : World), w'.ownsRow w.heap.size E 1 u xs.length (xs.map str) → Below w.heap.size w w' → Fresh strC E A B w xs u w' := by
    intro u w' ho hb
    have hlt := ho.lt
    refine ⟨fun b => A b ∨ u.ownBlock = some b, ownS_str (ownsRow_base ho hB) (fun g hg => .inr hg), ⟨fun b h1 _ => hb.block b h1, hb.size, fun b h1 => h1.imp id fun h1 => (hlt b h1).1⟩, hb, fun b h => .inl h, fun b h1 => ?_, fun b h1 => (hlt b h1).1⟩
    rcases h1 with h1 | h1
    · have := hA b h1; have := hb.size; omega
    · exact (hlt b h1).2
  rcases hv with ⟨rfl, rfl | ⟨a0, cap0, rfl, hc0⟩⟩ | ⟨b, o, cap, cells, E', fr, rfl, hAb, hb, hl, hc, hrd⟩
  · refine (h0 0 0 w).mono ?_
    rintro e w' ⟨rfl, rfl⟩
    exact ⟨_, rfl, fin _ _ (World.ownsRow_nil _ _ _ _) (Below.refl _ _)⟩
  · refine (hz a0 cap0 w).mono ?_
    rintro e w' ⟨v', rfl, ho, _, hbw⟩
    exact ⟨_, rfl, fin _ _ ho hbw⟩
  · have hcells : ∀ j, j < (xs.map fun x => (⟨x.toArray⟩ : ByteArray)).length → w.cell? ⟨b, o + j, none⟩ = some (.string ((xs.map fun x => (⟨x.toArray⟩ : ByteArray)).getD j ByteArray.empty)) := by
      intro j hj
      have hj' : j < xs.length := by simpa using hj
      have h1 : seg cells.toList (o + j * 1) 1 = [str xs[j]] := hrd j _ (List.getElem?_eq_getElem hj')
      have h2 := seg_get (j := 0) (u := str xs[j]) (by rw [h1]; rfl)
      simp only [World.cell?, hb]
      simpa [str, hj'] using h2
    refine (h b o xs.length cap _ w (by simp) (by omega) hcells).mono ?_
    rintro e w' ⟨v', rfl, ho, _, hbw⟩
    refine ⟨_, rfl, fin _ _ ?_ hbw⟩
    have e1 : ((xs.map fun x => (⟨x.toArray⟩ : ByteArray)).take xs.length).map Value.string = xs.map str := by
      rw [List.take_of_length_le (by simp), List.map_map]; rfl
    rwa [e1] at ho
end Go.KW
