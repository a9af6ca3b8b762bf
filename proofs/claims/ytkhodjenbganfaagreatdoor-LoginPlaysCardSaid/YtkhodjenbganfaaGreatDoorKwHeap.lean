/- Memory: what slices, arrays and structs in memory read as. A is a set of blocks that the readings do not touch: they may be written. -/
import Derived.Test.YtkhodjenbganfaaGreatDoorKwPure
namespace Go.KW
open Go Go.RowKit

structure St (A : Nat → Prop) (w : World) (A' : Nat → Prop) (w' : World) : Prop where
 same : ∀ b, b < w.heap.size → ¬ A b → w'.heap[b]? = w.heap[b]?
 size : w.heap.size ≤ w'.heap.size
 av : ∀ b, A' b → A b ∨ w.heap.size ≤ b

theorem St.of_below {A : Nat → Prop} {w w' : World} (h : Below w.heap.size w w') : St A w A w' := ⟨fun b hb _ => h.block b hb, h.size, fun _ h => .inl h⟩
theorem St.weak {A A' : Nat → Prop} {w : World} (h : ∀ b, A' b → A b) : St A w A' w := ⟨fun _ _ _ => rfl, Nat.le_refl _, fun b hb => .inl (h b hb)⟩

structure Cdc (T : Type) where
 size : Nat
 rd : (Nat → Prop) → World → List Value → T → Prop
 len : ∀ {A w cs x}, rd A w cs x → cs.length = size
 one : ∀ {A w cs x}, rd A w cs x → ∀ u ∈ cs, u.oneCell' = true
 step : ∀ {A w A' w' cs x}, rd A w cs x → St A w A' w' → rd A' w' cs x

def Cdc.flat {T : Type} (n : Nat) (enc : T → List Value) (hl : ∀ x, (enc x).length = n) (h1 : ∀ x, ∀ u ∈ enc x, u.oneCell' = true) : Cdc T :=
 { size := n, rd := fun _ _ cs x => cs = enc x, len := fun h => h ▸ hl _, one := fun h => h ▸ h1 _, step := fun h _ => h }
def intC (k : IntKind) : Cdc Int := Cdc.flat 1 (fun x => [.int k x]) (fun _ => rfl) (fun _ u h => by simp at h; subst h; rfl)
def strC : Cdc Str := Cdc.flat 1 (fun x => [str x]) (fun _ => rfl) (fun _ u h => by simp at h; subst h; rfl)
def boolC : Cdc Bool := Cdc.flat 1 (fun x => [.bool x]) (fun _ => rfl) (fun _ u h => by simp at h; subst h; rfl)

def seg (cells : List Value) (o n : Nat) : List Value := (cells.drop o).take n
theorem seg_get {cells : List Value} {o n j : Nat} {u : Value} (h : (seg cells o n)[j]? = some u) : cells[o + j]? = some u := by
 unfold seg at h
 rw [List.getElem?_take] at h
 split at h
 ·rwa [List.getElem?_drop] at h
 ·cases h

def SlR {T : Type} (c : Cdc T) (A : Nat → Prop) (w : World) (v : Value) (xs : List T) : Prop :=
 (xs = [] ∧ (v = .slice none 0 0 ∨ ∃ a cap, v = .slice (some a) 0 cap ∧ cap ≤ maxLen)) ∨ ∃ b off cap cur t fr, v = .slice (some ⟨b, off, none⟩) xs.length cap ∧ ¬ A b ∧ w.heap[b]? = some (.cells cur t fr) ∧ xs.length ≤ cap ∧ cap ≤ maxLen ∧
  ∀ i x, xs[i]? = some x → c.rd A w (seg cur.toList (off + i * c.size) c.size) x

section
variable {T : Type} {c : Cdc T} {A A' : Nat → Prop} {w w' : World} {v : Value} {xs : List T}

theorem SlR.nil : SlR c A w (.slice none 0 0) [] := .inl ⟨rfl, .inl rfl⟩
theorem SlR.step (h : SlR c A w v xs) (s : St A w A' w') : SlR c A' w' v xs := by
 rcases h with ⟨h1, h2⟩ | ⟨b, off, cap, cur, t, fr, h1, h2, h3, h4, h5, h6⟩
 ·exact .inl ⟨h1, h2⟩
 ·have hlt : b < w.heap.size := (Array.getElem?_eq_some_iff.1 h3).1
  refine .inr ⟨b, off, cap, cur, t, fr, h1, fun ha => ?_, (s.same b hlt h2).trans h3, h4, h5, fun i x hx => c.step (h6 i x hx) s⟩
  rcases s.av b ha with h | h
  ·exact h2 h
  ·omega
theorem SlR.below (h : SlR c A w v xs) (s : Below w.heap.size w w') : SlR c A w' v xs := h.step (.of_below s)
theorem SlR.weak (h : SlR c A w v xs) (s : ∀ b, A' b → A b) : SlR c A' w v xs := h.step (.weak s)
theorem SlR.shape (h : SlR c A w v xs) : ∃ a cap, v = .slice a xs.length cap ∧ xs.length ≤ cap ∧ cap ≤ maxLen := by
 rcases h with ⟨rfl, rfl | ⟨a, cap, rfl, hc⟩⟩ | ⟨b, off, cap, cur, t, fr, h1, h2, h3, h4, h5, h6⟩
 ·exact ⟨none, 0, rfl, Nat.le_refl _, by simp [maxLen]⟩
 ·exact ⟨_, cap, rfl, Nat.zero_le _, hc⟩
 ·exact ⟨_, cap, h1, h4, h5⟩
theorem SlR.oneCell (h : SlR c A w v xs) : v.oneCell' = true := by
 obtain ⟨a, cap, rfl, _⟩ := h.shape; rfl
end

def slC {T : Type} (c : Cdc T) : Cdc (List T) :=
  { size := 1, rd := fun A w cs xs => ∃ v, cs = [v] ∧ SlR c A w v xs
    len := fun ⟨_, h, _⟩ => h ▸ rfl
    one := fun ⟨_, h, hs⟩ u hu => by subst h; simp at hu; subst hu; exact hs.oneCell
    step := fun ⟨v, h, hs⟩ s => ⟨v, h, hs.step s⟩ }

structure ElR {T : Type} (c : Cdc T) (A : Nat → Prop) (w : World) (b o : Nat) (cs : List Value) (x : T) : Prop where
 rd : c.rd A w cs x
 av : ¬ A b
 cell : ∀ j u, cs[j]? = some u → w.cell? ⟨b, o + j, none⟩ = some u

def idx {T : Type} (xs : List T) (i : Int) : Option T := if 0 ≤ i then xs[i.toNat]? else none
theorem idx_some {T : Type} {xs : List T} {i : Int} {x : T} (h : idx xs i = some x) : 0 ≤ i ∧ i.toNat < xs.length ∧ xs[i.toNat]? = some x := by
 unfold idx at h
 split at h
 ·exact ⟨by assumption, (List.getElem?_eq_some_iff.1 h).1, h⟩
 ·cases h

section
variable {P : Program} {f : FuncId} {R : Ending → World → Prop} {n : Nat} {k : List Item} {Qr : Exit → Act → World → Prop} {l : Env} {w : World} {ops : Array Oper} {rest : List Oper} {t : TypeId}
variable {T : Type} {c : Cdc T} {A : Nat → Prop} {v : Value} {xs : List T}

theorem ev_sllen {x : Operand} {U E : TypeId} (hT : P.underlying U = some (.slice E)) (hx : look l x = some v) (h : SlR c A w v xs) :
  Ev P l (.call { callee := .builtin .len, args := #[x], argTypes := #[U] }) t w (.int .i64 (xs.length : Int)) := by
 obtain ⟨a, cap, rfl, _⟩ := h.shape
 intro d n e pos after g ha
 simp [execOp, resolve, invoke, builtin, ha.look hx, Builtin.len_, run_underlying hT, goInt]

theorem addr_add (b o m : Nat) : (⟨b, o, none⟩ : Addr).add m = ⟨b, o + m, none⟩ := by
 unfold Addr.add; split
 ·subst_vars; rfl
 ·rfl

theorem sizeOf_of {E : TypeId} {i : TypeInfo} (h : P.info? E = some i) : (sizeOf E).run P w = .ok i.size w := by
 simp [sizeOf, typeInfo, h]

theorem sr_index {d : Nat} {x y : Operand} {U E : TypeId} {kk : IntKind} {i : Int} {z : T} {pos : String} {after : Array Edge} {ti : TypeInfo} (h : SlR c A w v xs)
  (hT : P.underlying U = some (.slice E)) (hE : P.info? E = some ti) (hs : ti.size = c.size) (hx : look l x = some v) (hy : look l y = some (.int kk i)) (hi : idx xs i = some z) (hd : d < n)
  (hk : ∀ b o cs, ElR c A w b o cs z → SR P Qr n ops rest (l.put d (.pointer (some ⟨b, o, none⟩))) w) :
  SR P Qr n ops (⟨some d, .indexAddr U x y, t, pos, after, none⟩ :: rest) l w := by
 obtain ⟨h0, hlt, hz⟩ := idx_some hi
 rcases h with ⟨rfl, _⟩ | ⟨b, off, cap, cur, t', fr, rfl, h2, h3, h4, h5, h6⟩
 ·simp at hlt
 ·have hrd := h6 _ _ hz
  intro a ha
  refine wpl_of_run wanted_none (v := .pointer (some ⟨b, off + i.toNat * c.size, none⟩)) (w' := w) ?_ (hk b (off + i.toNat * c.size) _ ⟨hrd, h2, fun j u hj => ?_⟩ _ (ha.put _ hd))
  ·have hb : 0 ≤ i ∧ i < (xs.length : Int) := by omega
   simp [execOp, ha.look hx, ha.look hy, Instr.indexAt, asIntOf, run_underlying hT, hb, sizeOf_of hE, hs, addr_add]
  ·have := seg_get hj
   simp only [World.cell?, h3]
   simpa using this

theorem ev_fieldAddr {x : Operand} {U : TypeId} {fs : Array Field} {fd : Field} {i b o : Nat} {ti : TypeInfo} (hT : P.underlying U = some (.struct fs)) (hf : fs[i]? = some fd) (hi : P.info? fd.type = some ti) (hs : (ti.size == 0) = false)
  (hx : look l x = some (.pointer (some ⟨b, o, none⟩))) : Ev P l (.fieldAddr U x i) t w (.pointer (some ⟨b, o + fd.offset, none⟩)) := by
 intro d n e pos after g ha
 have h0 : ¬ ti.size = 0 := by simpa using hs
 simp [execOp, ha.look hx, Instr.fieldAt, run_underlying hT, hf, Instr.sureAddr, fieldPlace, sizeOf_of hi, h0, addr_add]

theorem ev_load {x : Operand} {U : TypeId} {b o : Nat} {u : Value} (hT : ∀ w, (isAgg U).run P w = .ok false w) (hx : look l x = some (.pointer (some ⟨b, o, none⟩))) (hc : w.cell? ⟨b, o, none⟩ = some u) :
  Ev P l (.load U x) t w u := by
 intro d n e pos after g ha
 simp [execOp, ha.look hx, Instr.loadAt, Instr.sureAddr, loadVar, hT, load, Sem.run, hc]
theorem ev_loads {x : Operand} {U : TypeId} {b o : Nat} {cs : List Value} (hT : ∀ w, (isAgg U).run P w = .ok true w) (hz : ∀ w, (sizeOf U).run P w = .ok cs.length w) (hx : look l x = some (.pointer (some ⟨b, o, none⟩)))
  (hc : ∀ j u, cs[j]? = some u → w.cell? ⟨b, o + j, none⟩ = some u) : Ev P l (.load U x) t w (.agg cs.toArray) := by
 intro d n e pos after g ha
 have h := run_loadCells_list (P := P) w ⟨b, o, none⟩ cs (fun j u hj => by rw [addr_add]; exact hc j u hj)
 simp [execOp, ha.look hx, Instr.loadAt, Instr.sureAddr, loadVar, hT, hz, h]

theorem SlR.cut_at {v' : Value} {i j : Int} (h : SlR c A w v xs) (hb : inc i j xs.length = true)
  (hv : ∃ a cap, v = .slice a xs.length cap ∧ v' = .slice (if cap = i.toNat then a else a.map (·.add (i.toNat * c.size))) (j.toNat - i.toNat) (cap - i.toNat)) : SlR c A w v' (cut xs i j) := by
 obtain ⟨a, cap', hv1, hv2⟩ := hv
 have hi := inc_iff.1 hb
 have hcl : (cut xs i j).length = j.toNat - i.toNat := by simp only [cut, List.length_take, List.length_drop]; omega
 rcases h with ⟨rfl, rfl | ⟨a0, cap0, rfl, hc0⟩⟩ | ⟨b, off, cap, cur, t', fr, rfl, h2, h3, h4, h5, h6⟩
 ·simp only [Value.slice.injEq] at hv1
  obtain ⟨rfl, _, rfl⟩ := hv1
  have : i = 0 := by simp at hi; omega
  have hj : j = 0 := by simp at hi; omega
  subst this; subst hj
  exact .inl ⟨by simp [cut], .inl (by rw [hv2]; simp)⟩
 ·simp only [Value.slice.injEq] at hv1
  obtain ⟨rfl, _, rfl⟩ := hv1
  have : i = 0 := by simp at hi; omega
  have hj : j = 0 := by simp at hi; omega
  subst this; subst hj
  refine .inl ⟨by simp [cut], .inr ?_⟩
  by_cases hz : cap0 = (0 : Int).toNat
  ·exact ⟨a0, cap0 - (0 : Int).toNat, by rw [hv2, if_pos hz]; simp, by simpa using hc0⟩
  ·exact ⟨a0.add ((0 : Int).toNat * c.size), cap0 - (0 : Int).toNat, by rw [hv2, if_neg hz]; simp, by simpa using hc0⟩
 ·simp only [Value.slice.injEq] at hv1
  obtain ⟨rfl, _, rfl⟩ := hv1
  by_cases hcap : cap = i.toNat
  ·refine .inr ⟨b, off, cap - i.toNat, cur, t', fr, by rw [hv2, hcl, if_pos hcap], h2, h3, by rw [hcl]; omega, by omega, fun m x hx => ?_⟩
   have := (List.getElem?_eq_some_iff.1 hx).1
   omega
  ·refine .inr ⟨b, off + i.toNat * c.size, cap - i.toNat, cur, t', fr, ?_, h2, h3, by rw [hcl]; omega, by omega, fun m x hx => ?_⟩
   ·rw [hv2, hcl, if_neg hcap]; simp [addr_add]
   ·have h7 : xs[i.toNat + m]? = some x := by
     unfold cut at hx
     rw [List.getElem?_take] at hx
     split at hx
     ·rwa [List.getElem?_drop] at hx
     ·cases hx
    have h8 := h6 _ _ h7
    rw [show off + i.toNat * c.size + m * c.size = off + (i.toNat + m) * c.size by rw [Nat.add_mul]; omega]
    exact h8

theorem run_slice_sl {U E : TypeId} {a : Option Addr} {len cap : Nat} {ti : TypeInfo} (hT : P.underlying U = some (.slice E)) (hE : P.info? E = some ti) {lo hi : Option (IntKind × Int)} {i j : Int}
  (hlo : i = (lo.map Prod.snd).getD 0) (hhi : j = (hi.map Prod.snd).getD ((len : Nat) : Int)) (h0 : 0 ≤ i) (h1 : i ≤ j) (h2 : j ≤ cap) :
  (Instr.sliceAt U (.slice a len cap) (lo.map fun p => .int p.1 p.2) (hi.map fun p => .int p.1 p.2) none).run P w =
   .ok (.slice (if cap = i.toNat then a else a.map (·.add (i.toNat * ti.size))) (j.toNat - i.toNat) (cap - i.toNat)) w := by
 have hj : 0 ≤ j ∧ j ≤ (cap : Int) := by omega
 have hi' : 0 ≤ i ∧ i ≤ ((j.toNat : Nat) : Int) := by omega
 cases lo with
 | none =>
  cases hi with
  | none =>
   simp only [Option.map_none, Option.getD_none] at hlo hhi
   subst hlo; subst hhi
   simp [Instr.sliceAt, Instr.slice, run_underlying hT, Instr.sliceBounds, sizeOf_of hE]
  | some q =>
   simp only [Option.map_none, Option.map_some, Option.getD_none, Option.getD_some] at hlo hhi
   subst hlo; subst hhi
   simp [Instr.sliceAt, Instr.slice, run_underlying hT, Instr.sliceBounds, Instr.sliceBound, asIntOf, hj, sizeOf_of hE]
 | some p =>
  cases hi with
  | none =>
   simp only [Option.map_none, Option.map_some, Option.getD_none, Option.getD_some] at hlo hhi
   subst hlo; subst hhi
   have hi'' : 0 ≤ p.2 ∧ p.2 ≤ (len : Int) := by omega
   simp [Instr.sliceAt, Instr.slice, run_underlying hT, Instr.sliceBounds, Instr.sliceBound, asIntOf, hi'', sizeOf_of hE]
  | some q =>
   simp only [Option.map_some, Option.getD_some] at hlo hhi
   subst hlo; subst hhi
   have hi'' : 0 ≤ p.2 ∧ p.2 ≤ max q.2 0 := by omega
   simp [Instr.sliceAt, Instr.slice, run_underlying hT, Instr.sliceBounds, Instr.sliceBound, asIntOf, hj, hi'', sizeOf_of hE]
end
end Go.KW
