/- Slices and arrays that the function itself has made: they grow by append, and their elements are stored. -/
import Derived.Test.YtkhodjenbganfaaGreatDoorKwHeap
namespace Go.KW
open Go Go.RowKit

def OwnS {T : Type} (c : Cdc T) (E : TypeId) (A : Nat → Prop) (B : Nat) (w : World) (v : Value) (xs : List T) : Prop :=
 ∃ cells, w.ownsRow B E c.size v xs.length cells ∧ (∀ g, v.ownBlock = some g → A g) ∧ ∀ i x, xs[i]? = some x → c.rd A w (seg cells (i * c.size) c.size) x

section
variable {T : Type} {c : Cdc T} {E : TypeId} {A A' : Nat → Prop} {B : Nat} {w w' : World} {v : Value} {xs ys : List T}

theorem OwnS.nil : OwnS c E A B w (.slice none 0 0) [] :=
 ⟨[], World.ownsRow_nil w B E c.size, fun g h => by simp [Value.ownBlock] at h, fun i x h => by simp at h⟩

theorem OwnS.keep (h : OwnS c E A B w v xs) (s : St A w A' w') (ha : ∀ b, A b → A' b) (hk : ∀ g, v.ownBlock = some g → w'.heap[g]? = w.heap[g]?) : OwnS c E A' B w' v xs := by
 obtain ⟨cells, h1, h2, h3⟩ := h
 refine ⟨cells, ⟨h1.1, ?_⟩, fun g hg => ha g (h2 g hg), fun i x hx => c.step (h3 i x hx) s⟩
 rcases h1.2 with hn | ⟨g, cap, cur, rfl, hb, hgg, r⟩
 ·exact .inl hn
 ·exact .inr ⟨g, cap, cur, rfl, hb, (hk g rfl).trans hgg, r⟩
theorem OwnS.lt (h : OwnS c E A B w v xs) : ∀ g, v.ownBlock = some g → B ≤ g ∧ g < w.heap.size := by
 obtain ⟨cells, h1, _⟩ := h
 exact h1.lt
theorem OwnS.below (h : OwnS c E A B w v xs) (s : Below w.heap.size w w') : OwnS c E A B w' v xs :=
 h.keep (.of_below s) (fun _ h => h) fun g hg => s.block g (h.lt g hg).2

theorem seg_prefix {cur cells : List Value} {m o n : Nat} (h : cur.take m = cells) (hm : o + n ≤ m) : seg cur o n = seg cells o n := by
 subst h
 unfold seg
 rw [List.drop_take, List.take_take, Nat.min_eq_left (by omega)]

theorem shape_own {b : Nat} {E : TypeId} {size : Nat} {n : Nat} {cells : List Value} (h : w.ownsRow b E size v n cells) : ∃ a cap, v = .slice a n cap ∧ n ≤ cap ∧ cap ≤ maxLen := by
 rcases h.2 with ⟨rfl, rfl⟩ | ⟨g, cap, cur, rfl, _, _, h4, h5, _⟩
 ·exact ⟨none, 0, rfl, Nat.le_refl _, by simp [maxLen]⟩
 ·exact ⟨_, cap, rfl, h4, h5⟩
theorem OwnS.shape (h : OwnS c E A B w v xs) : ∃ a cap, v = .slice a xs.length cap ∧ xs.length ≤ cap ∧ cap ≤ maxLen := by
 obtain ⟨cells, h1, _⟩ := h; exact shape_own h1

theorem OwnS.toSl (h : OwnS c E A B w v xs) (ha : ∀ b, A' b → A b ∧ b < B) : SlR c A' w v xs := by
 obtain ⟨cells, h1, h2, h3⟩ := h
 rcases h1.2 with ⟨rfl, hn⟩ | ⟨g, cap, cur, rfl, hb, hgg, h4, h5, h6, h7⟩
 ·exact .inl ⟨List.eq_nil_of_length_eq_zero hn, .inl rfl⟩
 ·refine .inr ⟨g, 0, cap, cur, E, (0, 0), rfl, fun hx => by have := (ha g hx).2; omega, hgg, h4, h5, fun i x hx => ?_⟩
  have hlt := (List.getElem?_eq_some_iff.1 hx).1
  have hle : i * c.size + c.size ≤ xs.length * c.size := by
   rw [← Nat.succ_mul]; exact Nat.mul_le_mul_right _ hlt
  have := c.step (h3 i x hx) (.weak fun b hb => (ha b hb).1)
  rw [Nat.zero_add, seg_prefix h7 hle]
  exact this
theorem OwnS.asSl (h : OwnS c E A B w v xs) : SlR c (fun _ => False) w v xs := h.toSl fun _ h => h.elim

theorem OwnS.elem {i : Int} {z : T} (h : OwnS c E A B w v xs) (hi : idx xs i = some z) :
  ∃ g cap, v = .slice (some ⟨g, 0, none⟩) xs.length cap ∧ ∃ cs, c.rd A w cs z ∧ ∀ j u, cs[j]? = some u → w.cell? ⟨g, i.toNat * c.size + j, none⟩ = some u := by
 obtain ⟨h0, hlt, hz⟩ := idx_some hi
 obtain ⟨cells, h1, h2, h3⟩ := h
 rcases h1.2 with ⟨rfl, hn⟩ | ⟨g, cap, cur, rfl, hb, hgg, h4, h5, h6, h7⟩
 ·omega
 ·refine ⟨g, cap, rfl, _, h3 _ _ hz, fun j u hj => ?_⟩
  have h8 := seg_get hj
  have h9 : cur.toList[i.toNat * c.size + j]? = some u := by
   rw [← h7, List.getElem?_take] at h8
   split at h8
   ·exact h8
   ·cases h8
  simp only [World.cell?, hgg]
  simpa using h9
end

theorem cells_of {T : Type} {c : Cdc T} {A : Nat → Prop} {w : World} (cur : List Value) (off : Nat) : ∀ (xs : List T), (∀ i x, xs[i]? = some x → c.rd A w (seg cur (off + i * c.size) c.size) x) →
  (seg cur off (xs.length * c.size)).length = xs.length * c.size := by
 intro xs h
 rcases Nat.eq_zero_or_pos xs.length with h0 | h0
 ·rw [h0]; simp [seg]
 ·have h1 := c.len (h (xs.length - 1) xs[xs.length - 1] (by simp))
  simp only [seg, List.length_take, List.length_drop] at h1 ⊢
  have e : xs.length * c.size = (xs.length - 1) * c.size + c.size := by rw [← Nat.succ_mul]; congr 1; omega
  rcases Nat.eq_zero_or_pos c.size with hz | hz
  ·rw [hz]; simp
  ·omega

section
variable {P : Program} {f : FuncId} {R : Ending → World → Prop} {n : Nat} {k : List Item} {Qr : Exit → Act → World → Prop} {l : Env} {w : World} {ops : Array Oper} {rest : List Oper} {t : TypeId}
variable {T : Type} {c : Cdc T} {E : TypeId} {A : Nat → Prop} {B : Nat} {v v2 : Value} {xs ys : List T}

def fitL (a b : Nat) : Bool := decide (a + b ≤ 4294967296)

theorem own_old {U ty : TypeId} {ti : TypeInfo} {zv : Value} {cells news : List Value} {nn m cp : Nat} {a : Addr} {v' : Value} {w' : World} (h1 : w.ownsRow B E ti.size v nn cells)
  (hT : P.underlying U = some (.slice E)) (hE : P.info? E = some ti) (hz : ti.zero = some zv)
  (hl : news.length = m * ti.size) (hnews : ∀ j u, news[j]? = some u → w.cell? (a.add j) = some u) (hone : ∀ u ∈ news, u.oneCell' = true)
  (h63 : nn + m ≤ maxLen) (hbytes : (nn + m) * ti.bytes ≤ 140737488355328)
  (hrun : (Builtin.append_ #[U, U] ty #[v, .slice (some a) m cp]).run P w = .ok v' w') : ∀ b, v'.ownBlock = some b → b = w.heap.size ∨ v.ownBlock = some b := by
 have hsmall : nn + m ≤ 9223372036854775807 := by simp only [maxLen] at h63; omega
 intro b hb
 rcases h1.2 with ⟨rfl, rfl⟩ | ⟨g, cap, cur, rfl, hbg, hg, hnc, hcm, hcs, htake⟩
 ·by_cases hm : m = 0
  ·subst hm
   have hn : news = [] := List.eq_nil_of_length_eq_zero (by simpa using hl)
   have hr : (Builtin.append_ #[U, U] ty #[.slice none 0 0, .slice (some a) 0 cp]).run P w = .ok (.slice none 0 0) w := by
    simp [Builtin.append_, run_underlying hT, sizeOf, typeInfo, hE, Builtin.lenOf, Builtin.firstCells, loadCells, loadCellsFrom]
   rw [hr] at hrun
   simp only [Result.ok.injEq] at hrun
   rw [← hrun.1] at hb
   simp [Value.ownBlock] at hb
  ·have hr := run_append_nil (P := P) w U ty E ti zv hT hE hz a m cp news hl hnews (by omega) (by omega) (by simp only [Nat.zero_add] at hbytes; omega)
   rw [hr] at hrun
   simp only [Result.ok.injEq] at hrun
   rw [← hrun.1] at hb
   simp [Value.ownBlock] at hb
   exact .inl hb.symm
 ·by_cases hroom : nn + m ≤ cap
  ·have hfit : nn * ti.size + news.length ≤ cur.size := by rw [hl, hcs, ← Nat.add_mul]; exact Nat.mul_le_mul_right _ hroom
   have hr := run_append_room (P := P) w U ty E ti hT hE g nn cap cur hg a m cp news hl hnews hone hroom hfit
   rw [hr] at hrun
   simp only [Result.ok.injEq] at hrun
   rw [← hrun.1] at hb
   exact .inr hb
  ·have holds : ∀ j u, cells[j]? = some u → w.cell? ((⟨g, 0, none⟩ : Addr).add j) = some u := World.ownsRow.cells h1 (g := g) rfl
   have hr := run_append_grow (P := P) w U ty E ti zv hT hE hz ⟨g, 0, none⟩ nn cap cells h1.1 holds a m cp news hl hnews (by omega) (by omega) (growslice_fits (by omega) hbytes)
   rw [hr] at hrun
   simp only [Result.ok.injEq] at hrun
   rw [← hrun.1] at hb
   simp [Value.ownBlock] at hb
   exact .inl hb.symm

def RdAll {T : Type} (c : Cdc T) (A : Nat → Prop) (w : World) : List (List Value) → List T → Prop
 | [], [] => True
 | cs :: css, x :: xs => c.rd A w cs x ∧ RdAll c A w css xs
 | _, _ => False
theorem RdAll.get {T : Type} {c : Cdc T} {A : Nat → Prop} {w : World} : ∀ {css : List (List Value)} {xs : List T}, RdAll c A w css xs → ∀ (pre : List Value) i x, xs[i]? = some x → c.rd A w (seg (pre ++ css.flatten) (pre.length + i * c.size) c.size) x
 | [], [], _, _, _, _, h => by simp at h
 | [], _ :: _, h, _, _, _, _ => h.elim
 | _ :: _, [], h, _, _, _, _ => h.elim
 | cs :: css, y :: ys, h, pre, i, x, hx => by
  have hl := c.len h.1
  cases i with
  | zero =>
   simp at hx
   subst hx
   have : seg (pre ++ (cs :: css).flatten) (pre.length + 0 * c.size) c.size = cs := by
    unfold seg
    simp only [Nat.zero_mul, Nat.add_zero, List.drop_left, List.flatten_cons]
    rw [List.take_append_of_le_length (by omega), List.take_of_length_le (by omega)]
   rw [this]; exact h.1
  | succ i =>
   have := RdAll.get h.2 (pre ++ cs) i x (by simpa using hx)
   simp only [List.length_append, hl] at this
   rw [show pre.length + (i + 1) * c.size = pre.length + c.size + i * c.size by rw [Nat.succ_mul]; omega]
   simpa using this
theorem RdAll.len {T : Type} {c : Cdc T} {A : Nat → Prop} {w : World} : ∀ {css : List (List Value)} {xs : List T}, RdAll c A w css xs → css.flatten.length = xs.length * c.size
 | [], [], _ => by simp
 | [], _ :: _, h => h.elim
 | _ :: _, [], h => h.elim
 | cs :: css, y :: ys, h => by
  simp only [List.flatten_cons, List.length_append, c.len h.1, RdAll.len h.2, List.length_cons, Nat.succ_mul]; omega
theorem RdAll.step {T : Type} {c : Cdc T} {A A' : Nat → Prop} {w w' : World} (s : St A w A' w') : ∀ {css : List (List Value)} {xs : List T}, RdAll c A w css xs → RdAll c A' w' css xs
 | [], [], _ => trivial
 | [], _ :: _, h => h.elim
 | _ :: _, [], h => h.elim
 | _ :: _, _ :: _, h => ⟨c.step h.1 s, RdAll.step s h.2⟩

theorem below_alloc (w : World) (o : Obj) : Below w.heap.size w (w.alloc o) := (Below.refl _ _).alloc (Nat.le_refl _) o
theorem alloc_new (w : World) (o : Obj) : (w.alloc o).heap[w.heap.size]? = some o := heap_alloc_new w o

theorem sr_lit {d : Nat} {U : TypeId} {m : Nat} {ps : Array (Nat × Operand)} {vs : Array (Nat × Value)} {cs : Array Value} {css : List (List Value)} {pos : String} {after : Array Edge}
  (hp : ps.toList.map (fun p => (look l p.2).map fun u => (p.1, u)) = vs.toList.map some)
  (hrun : ∀ w, (Instr.buildSlice U m vs).run P w = .ok (.slice (some ⟨w.heap.size, 0, none⟩) m m) (w.alloc (.cells cs E)))
  (hc : cs.toList = css.flatten) (hr : RdAll c A w css xs) (hm : xs.length = m) (hmx : m ≤ maxLen) (hlt : ∀ b, A b → b < w.heap.size) (hd : d < n)
  (hk : ∀ v' w', SlR c A w' v' xs → Below w.heap.size w w' → SR P Qr n ops rest (l.put d v') w') :
  SR P Qr n ops (⟨some d, .buildSlice U m ps, t, pos, after, none⟩ :: rest) l w := by
 have hb := below_alloc w (.cells cs E)
 have hst : St A w A (w.alloc (.cells cs E)) := .of_below hb
 intro a ha
 refine wpl_of_run wanted_none (v := .slice (some ⟨w.heap.size, 0, none⟩) m m) (w' := w.alloc (.cells cs E)) ?_ (hk _ _ ?_ hb _ (ha.put _ hd))
 ·have hm := parts_look ha hp
  simp only [execOp, hm, Sem.run_bind, hrun, Result.andThen_ok, Sem.run_pure]
 ·refine .inr ⟨w.heap.size, 0, m, cs, E, (0, 0), by rw [hm], fun h => by have := hlt _ h; omega, alloc_new w _, by omega, hmx, fun i x hx => ?_⟩
  have := (hr.step hst).get [] i x hx
  simpa [hc] using this

def bytesStr (xs : List Int) : Str := xs.map fun m => UInt8.ofNat m.toNat
theorem foldl_push (xs : List Int) (r : ByteArray) : xs.foldl (fun r m => r.push (UInt8.ofNat m.toNat)) r = ⟨r.data ++ (bytesStr xs).toArray⟩ := by
 induction xs generalizing r with
 | nil => simp [bytesStr]
 | cons m xs ih => simp only [List.foldl_cons, ih, bytesStr, List.map_cons]; simp [ByteArray.push]
theorem ev_b2s {x : Operand} {U V : TypeId} {xs : List Int} (h : SlR (intC .u8) A w v xs) (hs : P.underlying U = some (.slice E)) (he : P.underlying E = some (.int .u8)) (hd : P.underlying V = some .string) (hx : look l x = some v) :
  Ev P l (.convert U V x) t w (str (bytesStr xs)) := by
 intro d n e pos after g ha
 rcases h with ⟨rfl, rfl | ⟨a0, cap0, rfl, hc0⟩⟩ | ⟨b, off, cap, cur, t', fr, rfl, g2, g3, g4, g5, g6⟩
 ·simp [execOp, ha.look hx, run_convert_bytes_string w U V E none 0 0 hs he hd, Conv.bytesToString, bytesStr, str]
  rfl
 ·simp [execOp, ha.look hx, run_convert_bytes_string w U V E (some a0) 0 cap0 hs he hd, Conv.bytesToString, bytesStr, str, loadCells, loadCellsFrom]
  rfl
 ·have hl : (loadCells ⟨b, off, none⟩ xs.length).run P w = .ok (xs.map (Value.int .u8)).toArray w := by
   have := run_loadCells_list (P := P) w ⟨b, off, none⟩ (xs.map (Value.int .u8)) (fun j u hj => by
    rw [addr_add]
    simp only [List.getElem?_map, Option.map_eq_some_iff] at hj
    obtain ⟨m, hm, rfl⟩ := hj
    have h7 : seg cur.toList (off + j * 1) 1 = [.int .u8 m] := g6 j m hm
    have h8 : cur.toList[off + j * 1 + 0]? = some (.int .u8 m) := seg_get (n := 1) (j := 0) (by rw [h7]; rfl)
    simp only [World.cell?, g3]
    simpa using h8)
   simpa using this
  simp only [execOp, ha.look hx, Sem.run_bind, run_convert_bytes_string w U V E _ _ _ hs he hd, run_bytesToString w _ _ _ xs hl, Result.andThen_ok, Sem.run_pure, foldl_push]
  have he0 : ByteArray.empty.data = #[] := rfl
  rw [he0]
  simp [str]
end
end Go.KW
