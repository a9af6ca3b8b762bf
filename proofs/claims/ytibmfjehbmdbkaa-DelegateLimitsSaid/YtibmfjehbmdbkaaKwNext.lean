/- Ranges over strings, arrays that make lays, closures, and two library contracts more. -/
import Derived.Test.YtibmfjehbmdbkaaKwLib
import Derived.Laws.RangeAny
import Derived.Lib.ItoaNum
import Derived.Lib.LaidTab
import Derived.Lib.TrimByte
import Derived.WalkSmall
import Derived.Sort.Grow
import Derived.Sort.OwnSorted
import Derived.Sort.Walk0
namespace Go.KW
open Go Go.RowKit

section
variable {P : Program} {f : FuncId} {R : Ending → World → Prop} {n : Nat} {k : List Item} {Qr : Exit → Act → World → Prop} {l : Env} {w : World} {ops : Array Oper} {rest : List Oper} {t : TypeId}
variable {A : Nat → Prop} {B : Nat} {L : List (Nat × Obj)}

theorem RwV.sl {v : Value} {g j : Nat} {xs : List Int} {ex : List Value} {tt : TypeId} (hv : RwV v g xs.length) (h : Hp A B w L) (hj : L[j]? = some (g, rowObj (Value.int .u8) xs ex tt)) : SlR (intC .u8) (fun _ => False) w v xs := by
  obtain ⟨cap, rfl, h1, h2⟩ := hv
  exact arr_sl rfl h hj rfl h1 h2

/-! ### closures: what they have captured is read -/
theorem Hp.el {T : Type} {c : Cdc T} {x : T} {i g : Nat} {cs : List Value} {tt : TypeId} {fr : Nat × Nat} (h : Hp A B w L) (hi : L[i]? = some (g, .cells cs.toArray tt fr)) (hr : c.rd (fun _ => False) w cs x) : ElR c (fun _ => False) w g 0 cs x :=
  ⟨hr, id, fun j u hj => by rw [Nat.zero_add]; exact h.cell hi (by simpa using hj)⟩
theorem ElR.weak {T : Type} {c : Cdc T} {A' : Nat → Prop} {b o : Nat} {cs : List Value} {x : T} (h : ElR c A w b o cs x) (s : ∀ b, A' b → A b) : ElR c A' w b o cs x :=
  ⟨c.step h.rd (.weak s), fun ha => h.av (s _ ha), h.cell⟩
theorem ElR.below {T : Type} {c : Cdc T} {w' : World} {b o : Nat} {cs : List Value} {x : T} (h : ElR c A w b o cs x) (s : Below w.heap.size w w') (h0 : 0 < cs.length) : ElR c A w' b o cs x := h.step (.of_below s) h0
theorem run_callc {a : Act} (ha : At n l a) {fv : Operand} {g : FuncId} {cap : Array Value} {av : Array Operand} {ts : Array TypeId} {t : TypeId} {pos : String} {after : Array Edge} {vs : List Value} {d : Option Tmp} {gd : Option (Nat × Bool)}
    (hv : look l fv = some (.func (.func g) #[] cap))
    (hc : ∀ (args : Array Value) (w : World), (callFunc g args).run P w = .ok (.enter g args) w)
    (hargs : av.toList.map (look l) = vs.map some) :
    (execOp a.eval ⟨d, .call { callee := .value fv, args := av, argTypes := ts }, t, pos, after, gd⟩).run P w = .ok (.enter g (vs ++ cap.toList).toArray) w := by
  simp [execOp, resolve, ha.look hv, Deferred.ofValue, map_looka ha hargs, invoke, hc]
theorem sr_callc {d : Nat} {fv : Operand} {g : FuncId} {cap : Array Value} {av : Array Operand} {ts : Array TypeId} {t : TypeId} {pos : String} {after : Array Edge} {vs : List Value}
    (hv : look l fv = some (.func (.func g) #[] cap))
    (hc : ∀ (args : Array Value) (w : World), (callFunc g args).run P w = .ok (.enter g args) w)
    (hargs : av.toList.map (look l) = vs.map some) {Rc : Value → World → Prop}
    (h : Calls P g (vs ++ cap.toList).toArray w (Ret Rc)) (hd : d < n) (hk : ∀ v w', Rc v w' → SR P Qr n ops rest (l.put d v) w') :
    SR P Qr n ops (⟨some d, .call { callee := .value fv, args := av, argTypes := ts }, t, pos, after, none⟩ :: rest) l w := by
  intro a ha
  simp only [wpList, wanted_none, if_true, Oper.wp, run_callc ha hv hc hargs, Oper.upon_enter]
  refine .inl (h.mono ?_)
  rintro e w' ⟨v, rfl, hv⟩
  exact hk v w' hv _ (ha.put v hd)
end

/-- a closure is made -/
theorem ev_makeFunc {P : Program} {l : Env} {w : World} {t : TypeId} {g : FuncId} {cs : Array Operand} {vs : List Value} (h : cs.toList.map (look l) = vs.map some) : Ev P l (.makeFunc (.func g) #[] cs) t w (.func (.func g) #[] vs.toArray) := by
  intro c n d pos after g ha
  simp [execOp, map_looka ha h, Instr.makeFunc]

/-! ### a part of a slice, in a region that draws its order -/
section
variable {P : Program} {A : Nat → Prop} {w : World} {T : Type} {c : Cdc T} {v : Value} {xs : List T} {U E : TypeId} {i j : Int} {ti : TypeInfo}
end

/-! ### slices.Clone, slices.Delete at strings -/
def lib_Clone (xs : List Str) : Option (List Str) := chk (decide (xs.length ≤ 8796093022208)) (some xs)
/-- a fresh slice of the caller's own -/
def Fresh {T : Type} (c : Cdc T) (E : TypeId) (A : Nat → Prop) (B : Nat) (w : World) (xs : List T) : Value → World → Prop := fun v w' =>
  ∃ A', OwnS c E A' B w' v xs ∧ St A w A' w' ∧ Below w.heap.size w w' ∧ (∀ b, A b → A' b) ∧ (∀ b, A' b → b < w'.heap.size) ∧ ∀ b, v.ownBlock = some b → w.heap.size ≤ b
theorem ownS_str {E : TypeId} {A : Nat → Prop} {B : Nat} {w : World} {v : Value} {xs : List Str} (h : w.ownsRow B E 1 v xs.length (xs.map str)) (hA : ∀ g, v.ownBlock = some g → A g) : OwnS strC E A B w v xs :=
  ⟨xs.map str, h, hA, fun i x hx => by
    show seg _ _ 1 = [str x]
    have h4 : (xs.map str)[i]? = some (str x) := by simp [hx]
    obtain ⟨h5, h6⟩ := List.getElem?_eq_some_iff.1 h4
    have hd := List.drop_eq_getElem_cons h5
    show ((xs.map str).drop (i * 1)).take 1 = [str x]
    rw [Nat.mul_one, hd, h6, List.take_succ_cons, List.take_zero]⟩
theorem ownsRow_base {w : World} {B B' : Nat} {E : TypeId} {size n : Nat} {v : Value} {cells : List Value} (h : w.ownsRow B E size v n cells) (hB : B' ≤ B) : w.ownsRow B' E size v n cells := by
  refine ⟨h.1, ?_⟩
  rcases h.2 with h1 | ⟨g, cap, cur, h1, h2, r⟩
  · exact .inl h1
  · exact .inr ⟨g, cap, cur, h1, Nat.le_trans hB h2, r⟩
theorem clone_ok {P : Program} {F E : Nat}
    (h : ∀ (b off n c : Nat) (zs : List ByteArray) (w : World), n ≤ zs.length → n * 16 ≤ 140737488355328 → (∀ j, j < zs.length → w.cell? ⟨b, off + j, none⟩ = some (.string (zs.getD j ByteArray.empty))) →
      Calls P F #[.slice (some ⟨b, off, none⟩) n c] w fun e w' => ∃ v', e = .returned v' ∧ w'.ownsRow w.heap.size E 1 v' n ((zs.take n).map (Value.string)) ∧ v' ≠ .slice none 0 0 ∧ Below w.heap.size w w')
    (h0 : ∀ (n c : Nat) (w : World), Calls P F #[.slice none n c] w fun e w' => e = .returned (.slice none 0 0) ∧ w' = w)
    (hz : ∀ (a : Addr) (c : Nat) (w : World), Calls P F #[.slice (some a) 0 c] w fun e w' => ∃ v', e = .returned v' ∧ w'.ownsRow w.heap.size E 1 v' 0 [] ∧ v' ≠ .slice none 0 0 ∧ Below w.heap.size w w')
    {w : World} {A A1 : Nat → Prop} {B : Nat} {v : Value} {xs r : List Str} (hv : SlR strC A1 w v xs) (hA : ∀ b, A b → b < w.heap.size) (hB : B ≤ w.heap.size) (hS : lib_Clone xs = some r) :
    Calls P F #[v] w (Ret (Fresh strC E A B w r)) := by
  obtain ⟨hk, hS⟩ := chk_some hS
  simp only [decide_eq_true_eq] at hk
  cases hS
  have fin : ∀ (u : Value) (w' : World), w'.ownsRow w.heap.size E 1 u xs.length (xs.map str) → Below w.heap.size w w' → Fresh strC E A B w xs u w' := by
    intro u w' ho hb
    have hlt := ho.lt
    refine ⟨fun b => A b ∨ u.ownBlock = some b, ownS_str (ownsRow_base ho hB) (fun g hg => .inr hg), ⟨fun b h1 _ => hb.block b h1, hb.size, fun b h1 => h1.imp id fun h1 => (hlt b h1).1⟩, hb, fun b h => .inl h, fun b h1 => ?_, fun b h1 => (hlt b h1).1⟩
    rcases h1 with h1 | h1
    · have := hA b h1; have := hb.size; omega
    · exact (hlt b h1).2
  rcases hv with ⟨rfl, rfl | ⟨a0, cap0, rfl, hc0⟩⟩ | ⟨b, o, cap, cells, E', fr, rfl, hAb, hb, hl, hc, hrd⟩
  · refine (h0 0 0 w).mono ?_
    rintro e w' ⟨rfl, rfl⟩
    exact ⟨_, rfl, fin _ _ (World.ownsRow_nil _ _ _ _) (Below.refl _ _)⟩
  · refine (hz a0 cap0 w).mono ?_
    rintro e w' ⟨v', rfl, ho, _, hbw⟩
    exact ⟨_, rfl, fin _ _ ho hbw⟩
  · have hcells : ∀ j, j < (xs.map fun x => (⟨x.toArray⟩ : ByteArray)).length → w.cell? ⟨b, o + j, none⟩ = some (.string ((xs.map fun x => (⟨x.toArray⟩ : ByteArray)).getD j ByteArray.empty)) := by
      intro j hj
      have hj' : j < xs.length := by simpa using hj
      have h1 : seg cells.toList (o + j * 1) 1 = [str xs[j]] := hrd j _ (List.getElem?_eq_getElem hj')
      have h2 := seg_get (j := 0) (u := str xs[j]) (by rw [h1]; rfl)
      simp only [World.cell?, hb]
      simpa [str, hj'] using h2
    refine (h b o xs.length cap _ w (by simp) (by omega) hcells).mono ?_
    rintro e w' ⟨v', rfl, ho, _, hbw⟩
    refine ⟨_, rfl, fin _ _ ?_ hbw⟩
    have e1 : ((xs.map fun x => (⟨x.toArray⟩ : ByteArray)).take xs.length).map Value.string = xs.map str := by
      rw [List.take_of_length_le (by simp), List.map_map]; rfl
    rwa [e1] at ho
end Go.KW
