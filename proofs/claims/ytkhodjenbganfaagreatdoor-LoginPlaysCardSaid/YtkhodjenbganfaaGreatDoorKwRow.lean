/- From the form's reading of arguments to the readings of the calculus, and the frame of a law's proof. -/
import Derived.Test.YtkhodjenbganfaaGreatDoorKwMore
import Derived.HandedShaped
import Derived.Handed
import Derived.Carry
import Derived.Shelf.Vars
import Derived.Lay
import Derived.LaidMore
import Derived.ProofKit
import Derived.OpenShut
import Derived.JoinedOf
import Derived.Stop.Joined
import Derived.Lib.LaidTab
import Derived.Stop.LaidErr
namespace Go.KW
open Go Go.RowKit Go.ChangeShapes Go.WideShapes Go.ChangeAt

def Opn (P : Program) (t : TypeId) {T : Type} (c : Cdc T) (ok : T → Prop) : Prop :=
 ∀ {H : Type} {enc : TypeId × Value → H} {w : World} {base : Nat} {spare : Nat → Bool} {held : Bool} {fuel : Nat} {cs : List Value} {x : DataW H × List MemPlace},
  DataW.trod enc P w base spare held fuel t cs = some x → (∀ n ∈ DataW.weights P t x.1, n ≤ reachBytes) → ∃ y, c.rd (fun _ => False) w cs y ∧ ok y

section
variable {P : Program} {t e : TypeId}
theorem opn_int {k : IntKind} (h : P.underlying t = some (.int k)) : Opn P t (intC k) (fun n => (Lit.int k n).wf = true) := by
 intro H enc w base spare held fuel cs x hx _
 obtain ⟨n, rfl, _, hw⟩ := DataW.trod_int h hx
 exact ⟨n, rfl, hw⟩
theorem opn_str (h : P.underlying t = some .string) : Opn P t strC (fun s => s.length ≤ reachBytes) := by
 intro H enc w base spare held fuel cs x hx hw
 obtain ⟨s, rfl, rfl, _⟩ := DataW.trod_string h hx
 refine ⟨s.data.toList, by show [_] = [_]; rw [str_of], hw _ ?_⟩
 simp [DataW.weights]
theorem mem_weightsAll {H : Type} {d : DataW H} {n : Nat} : ∀ {l : List (DataW H)}, d ∈ l → n ∈ DataW.weights P e d → n ∈ DataW.weightsAll P e l
 | [], h, _ => by cases h
 | x :: r, h, hn => by
  simp only [DataW.weightsAll, List.mem_append]
  rcases List.mem_cons.1 h with rfl | h
  ·exact .inl hn
  ·exact .inr (mem_weightsAll h hn)
theorem cells_block {w : World} {base m : Nat} {a : Addr} {cs : List Value} (h0 : 0 < m) (h : w.cells? base a m = some cs) :
  a.spot = none ∧ cs.length = m ∧ ∀ j u, cs[j]? = some u → w.cell? ⟨a.block, a.off + j, none⟩ = some u := by
 unfold World.cells? at h
 split at h
 ·have hl := mapM_some_length h
  have hg := fun j (hj : j < m) => mapM_some_get h j j (by simp [hj])
  have h1 := hg 0 h0
  have hl0 : 0 < cs.length := by simp at hl; omega
  have hcs : cs[0]? = some cs[0] := List.getElem?_eq_getElem hl0
  have hs : a.spot = none := by
   have := World.cell?_spot (h1.trans hcs)
   obtain ⟨b, o, s⟩ := a
   simpa [Addr.add] using this
  refine ⟨hs, by simpa using hl, fun j u hu => ?_⟩
  have hj : j < m := by have := (List.getElem?_eq_some_iff.1 hu).1; simp at hl; omega
  have h2 := (hg j hj).trans hu
  obtain ⟨b, o, s⟩ := a
  simp at hs
  subst hs
  rwa [addr_add] at h2
 ·cases h
theorem seg_of {w : World} {b o m : Nat} {cs : List Value} {cur : Array Value} {tt : TypeId} {fr : Nat × Nat} (hb : w.heap[b]? = some (.cells cur tt fr)) (hl : cs.length = m)
  (h : ∀ j u, cs[j]? = some u → w.cell? ⟨b, o + j, none⟩ = some u) : seg cur.toList o m = cs := by
 apply List.ext_getElem?
 intro j
 unfold seg
 rw [List.getElem?_take]
 split
 ·rename_i hj
  have hj' : j < cs.length := by omega
  have := h j cs[j] (List.getElem?_eq_getElem hj')
  simp only [World.cell?, hb] at this
  rw [List.getElem?_drop, List.getElem?_eq_getElem hj']
  simpa using this
 ·rw [List.getElem?_eq_none (by omega)]
theorem opn_slice {T : Type} {c : Cdc T} {ok : T → Prop} (h : P.underlying t = some (.slice e)) (hc : P.cellsOf e = c.size) (h0 : 0 < c.size) (hb : 0 < P.bytesOf e) (o : Opn P e c ok) :
  Opn P t (slC c) (fun xs => xs.length ≤ reachBytes ∧ ∀ x ∈ xs, ok x) := by
 intro H enc w base spare held fuel cs x hx hw
 rcases DataW.trod_slice h hx with ⟨rfl, rfl⟩ | ⟨a, len, cap, elems, rest, n, _, rfl, rfl, hba, hle, hm, hlen, hel, _, _⟩
 ·exact ⟨[], ⟨_, rfl, SlR.nil⟩, Nat.zero_le _, fun x hx => by cases hx⟩
 ·have hwt : ∀ d ∈ elems.map (·.1), ∀ m ∈ DataW.weights P e d, m ≤ reachBytes := by
   intro d hd m hmm
   refine hw m ?_
   simp only [DataW.weights, h, List.mem_cons, List.mem_append]
   exact .inr (.inl (mem_weightsAll hd hmm))
  have hln : len ≤ reachBytes := by
   have := hw _ (by simp only [DataW.weights, h, List.mem_cons]; exact .inl rfl)
   simp only [List.length_map] at this
   have h2 : elems.length * 1 ≤ (elems.length + rest.length) * P.bytesOf e := Nat.mul_le_mul (by omega) hb
   omega
  have hspot : 0 < len → a.spot = none := by
   intro hi
   have h1 := hel 0 hi
   have h2 : elems[0]? = some elems[0] := List.getElem?_eq_getElem (by omega)
   rw [h2] at h1
   obtain ⟨ces, h3, h4⟩ := Option.bind_eq_some_iff.1 h1
   rw [hc] at h3
   have g1 := (cells_block h0 h3).1
   obtain ⟨b, o, s⟩ := a
   simpa [Addr.add] using g1
  -- each element
  have each : ∀ i, i < len → ∃ ces y, a.spot = none ∧ (∀ j u, ces[j]? = some u → w.cell? ⟨a.block, a.off + i * c.size + j, none⟩ = some u) ∧ ces.length = c.size ∧ c.rd (fun _ => False) w ces y ∧ ok y := by
   intro i hi
   have h1 := hel i hi
   have h2 : elems[i]? = some elems[i] := List.getElem?_eq_getElem (by omega)
   rw [h2] at h1
   obtain ⟨ces, h3, h4⟩ := Option.bind_eq_some_iff.1 h1
   rw [hc] at h3
   obtain ⟨g1, g2, g3⟩ := cells_block h0 h3
   have hsp : a.spot = none := hspot (by omega)
   obtain ⟨y, h5, h6⟩ := o h4 (hwt _ (List.mem_map.2 ⟨_, List.getElem_mem (by omega), rfl⟩))
   refine ⟨ces, y, hsp, fun j u hu => ?_, g2, h5, h6⟩
   have := g3 j u hu
   obtain ⟨b, o', s⟩ := a
   simp at hsp
   subst hsp
   rwa [addr_add] at this
  rcases Nat.eq_zero_or_pos len with rfl | hpos
  ·exact ⟨[], ⟨_, rfl, .inl ⟨rfl, .inr ⟨a, cap, rfl, hm⟩⟩⟩, Nat.zero_le _, fun x hx => by cases hx⟩
  ·have hex : ∃ f : Nat → T, ∀ i, i < len → ∃ ces, (∀ j u, ces[j]? = some u → w.cell? ⟨a.block, a.off + i * c.size + j, none⟩ = some u) ∧ ces.length = c.size ∧ c.rd (fun _ => False) w ces (f i) ∧ ok (f i) := by
    obtain ⟨_, y0, _⟩ := each 0 hpos
    refine ⟨fun i => if hi : i < len then (each i hi).choose_spec.choose else y0, fun i hi => ?_⟩
    have := (each i hi).choose_spec.choose_spec
    simp only [dif_pos hi]
    exact ⟨_, this.2.1, this.2.2.1, this.2.2.2.1, this.2.2.2.2⟩
   obtain ⟨f, hf⟩ := hex
   have hsp : a.spot = none := (each 0 hpos).choose_spec.choose_spec.1
   obtain ⟨b, off, s⟩ := a
   simp at hsp
   subst hsp
   obtain ⟨ces0, g0, gl0, _⟩ := hf 0 hpos
   have hblk : ∃ cur tt fr, w.heap[b]? = some (.cells cur tt fr) := by
    have := g0 0 ces0[0] (List.getElem?_eq_getElem (by omega))
    unfold World.cell? at this
    split at this
    ·rename_i c1 t1 f1 hh; exact ⟨_, _, _, hh⟩
    ·cases this
   obtain ⟨cur, tt, fr, hblk⟩ := hblk
   refine ⟨(List.range len).map f, ⟨_, rfl, .inr ⟨b, off, cap, cur, tt, fr, by simp, id, hblk, by simpa using hle, hm, fun i x hx => ?_⟩⟩, by simpa using hln, fun x hx => ?_⟩
   ·rw [List.getElem?_map] at hx
    obtain ⟨j, hj, rfl⟩ := Option.map_eq_some_iff.1 hx
    obtain ⟨hjl, rfl⟩ := List.getElem?_eq_some_iff.1 hj
    simp only [List.getElem_range] at *
    obtain ⟨ces, g1, g2, g3, _⟩ := hf i (by simpa using hjl)
    rw [seg_of hblk g2 g1]
    exact g3
   ·obtain ⟨i, hi, rfl⟩ := List.mem_map.1 hx
    obtain ⟨_, _, _, _, h6⟩ := hf i (by simpa using hi)
    exact h6
theorem opn_struct {H : Type} {enc : TypeId × Value → H} {w : World} {base : Nat} {spare : Nat → Bool} {held : Bool} {fuel : Nat} {cs : List Value} {x : DataW H × List MemPlace} {fs : Array Field}
  (h : P.underlying t = some (.struct fs)) (hx : DataW.trod enc P w base spare held fuel t cs = some x) (hw : ∀ n ∈ DataW.weights P t x.1, n ≤ reachBytes) :
  cs.length = P.cellsOf t ∧ ∀ (i : Nat) (f : Field) {T : Type} {c : Cdc T} {ok : T → Prop}, fs[i]? = some f → Opn P f.type c ok → ∃ y, c.rd (fun _ => False) w ((cs.drop f.offset).take (P.cellsOf f.type)) y ∧ ok y := by
 obtain ⟨xs, n, _, rfl, hl, hlen, hf⟩ := DataW.trod_struct h hx
 refine ⟨hl, fun i f T c ok hi o => ?_⟩
 have hil : i < fs.size := (Array.getElem?_eq_some_iff.1 hi).1
 have h1 := hf i f hi
 rw [List.getElem?_eq_getElem (by omega)] at h1
 refine o h1 fun m hm => hw m ?_
 simp only [DataW.weights, h]
 -- the weights of field i
 have key : ∀ (l : List TypeId) (ds : List (DataW H)) (i : Nat) (u : TypeId) (d : DataW H), l[i]? = some u → ds[i]? = some d → m ∈ DataW.weights P u d → m ∈ DataW.weightsEach P l ds := by
  intro l
  induction l with
  | nil => intro ds i u d h; simp at h
  | cons a r ih =>
   intro ds i u d h1 h2 h3
   cases ds with
   | nil => simp at h2
   | cons b q =>
    simp only [DataW.weightsEach, List.mem_append]
    cases i with
    | zero => simp at h1 h2; subst h1; subst h2; exact .inl h3
    | succ i => exact .inr (ih q i u d (by simpa using h1) (by simpa using h2) h3)
 exact key _ _ i f.type _ (by simp [hi]) (by rw [List.getElem?_map, List.getElem?_eq_getElem (by omega)]; rfl) hm
end

section
variable {P : Program} {W : World} {H : Type} {enc : TypeId × Value → H} {t : TypeId} {v : Value} {d : DataW H} {p : List MemPlace} {r : Reach} {b0 : Nat}
theorem arg_int {k : IntKind} (h : P.underlying t = some (.int k)) (hv : Value.okWide P W r b0 t v) (hd : DataW.Trod enc P W 0 (fun _ => true) true t v d p) : ∃ n : Int, v = .int k n ∧ (Lit.int k n).wf = true := by
 obtain ⟨n, rfl, _, _, hw⟩ := open_int h hv hd
 exact ⟨n, rfl, hw⟩
theorem arg_slice {e : TypeId} {T : Type} {c : Cdc T} {ok : List T → Prop} (h : P.underlying t = some (.slice e)) (o : Opn P t (slC c) ok) (hv : Value.okWide P W r b0 t v) (hd : DataW.Trod enc P W 0 (fun _ => true) true t v d p)
  (hw : ∀ n ∈ DataW.weights P t d, n ≤ reachBytes) : ∃ xs, SlR c (fun _ => False) W v xs ∧ ok xs := by
 obtain ⟨fuel, hf⟩ := hd
 obtain ⟨xs, ⟨u, hu, hs⟩, hok⟩ := o hf hw
 have : v.cells = #[v] := by
  unfold Value.okWide at hv
  rw [h] at hv
  cases v <;> first | rfl | (simp [Cell.okWide, Cell.ok, h] at hv)
 rw [this] at hu
 simp at hu
 subst hu
 exact ⟨xs, hs, hok⟩
theorem weights_cons {ts : List TypeId} {ds : List (DataW H)} (h : (DataW.weightsEach P (t :: ts) (d :: ds)).all (· ≤ reachBytes) = true) :
  (∀ n ∈ DataW.weights P t d, n ≤ reachBytes) ∧ (DataW.weightsEach P ts ds).all (· ≤ reachBytes) = true := by
 simp only [DataW.weightsEach, List.all_append, Bool.and_eq_true, List.all_eq_true, decide_eq_true_eq] at h
 exact ⟨h.1, by simpa using h.2⟩
end

theorem tab_cell {P : Program} {W : World} {name : String} {k : IntKind} {zs : List Int} {g : Nat} (h : Lib.TabIs P W name k zs) (hg : P.globalNamed name = some g) {i x : Int} (hx : idx zs i = some x) :
  W.cell? ⟨g, 0 + i.toNat * 1, none⟩ = some (.int k x) := by
 obtain ⟨_, h2, h3⟩ := idx_some hx
 have := h.cell hg i.toNat h2
 rw [Nat.zero_add, Nat.mul_one, this, List.getD, h3]
 rfl
theorem Below.trodAll {P : Program} {W W' : World} {H : Type} {enc : TypeId × Value → H} (hl : laidOutB P = true) (hb : Below W.heap.size W W') :
  ∀ {ts : List TypeId} {vs : List Value} {ds : List (DataW H)} {ps : List MemPlace}, (ts.all fun t => P.readableRec t && decide (t < P.types.size)) = true → (∀ x ∈ ps, x.block < W.heap.size) →
   DataW.TrodAll enc P W 0 (fun _ => true) true ts vs ds ps → DataW.TrodAll enc P W' 0 (fun b => decide (b < W.heap.size)) true ts vs ds ps
 | [], [], [], _, _, _, h => h
 | [], [], _ :: _, _, _, _, h => h.elim
 | [], _ :: _, _, _, _, _, h => by cases h
 | _ :: _, [], _, _, _, _, h => by cases h
 | _ :: _, _ :: _, [], _, _, _, h => h.elim
 | t :: ts, v :: vs, d :: ds, ps, hr, hlt, h => by
  obtain ⟨p, q, h1, h2, rfl⟩ := h
  simp only [List.all_cons, Bool.and_eq_true, decide_eq_true_eq] at hr
  exact ⟨p, q, Below.trod hl hr.1.1 hr.1.2 h1 hb fun x hx => hlt x (by simp [hx]), Below.trodAll hl hb hr.2 (fun x hx => hlt x (by simp [hx])) h2, rfl⟩

theorem law_lifted {C : Checked} {os : Os} {f : FuncId} {fn : Func} {s : ChangeSpec} {laid : List (String × DataW Unit)} {tb : TypeId} {H : Type} {enc : TypeId × Value → H}
  (own : ownKnob C.prog.godebug = none) (started : os.Started) (noInit : C.prog.inits.idxOf? f = none) (hfn : C.prog.funcs[f]? = some fn)
  (witness : ∃ (w : World) (tape : Tape) (i : Input), w.os = os ∧ (w.forCall tape i).Shaped C.prog ∧ i.vars = [] ∧ Input.okWide C.prog (w.forCall tape i) .any w.heap.size f i ∧
   ((s.pre enc C.prog fn [] false (w.forCall tape i).memory i.args ∧ laidMetH C.prog laid (w.forCall tape i).memory) ∧ sizedMet enc C.prog fn (OpenSpec.ofChange s) false (w.forCall tape i).memory i.args) ∧ ({} : Assume).holds C.prog (lone (Frame.enter C.prog f i.args .normal) [] (w.forCall tape i)))
  (hl : laidOutB C.prog = true) (hpar : (fn.params.toList.all fun t => C.prog.readableRec t && decide (t < C.prog.types.size)) = true)
  (hres : fn.resultTypes = #[tb]) (hbool : C.prog.underlying tb = some .bool) (hvars : s.vars = [])
  (hsfn : ∀ (ds : List (DataW H)), ds.length = fn.params.toList.length → s.fn H ds = { results := [.lit (.bool true)], args := ds })
  (contract : ∀ (W : World) (base : Nat) (args : Array Value) (ds : List (DataW H)) (before : List MemPlace),
   (∀ (j : Nat) t v, fn.params[j]? = some t → args[j]? = some v → Value.okWide C.prog W .any base t v) →
   DataW.TrodAll enc C.prog W 0 (fun _ => true) true fn.params.toList args.toList ds before →
   (DataW.weightsEach C.prog fn.params.toList ds).all (· ≤ reachBytes) = true → laidMetH C.prog laid W → W.ShapedOpen C.prog →
   Calls C.prog f args W (Ret fun v W' => v = .bool true ∧ Below W.heap.size W W')) :
  ReturnsInHanded {} C os f .any (fun w args => (s.pre enc C.prog fn [] false w args ∧ laidMetH C.prog laid w) ∧ sizedMet enc C.prog fn (OpenSpec.ofChange s) false w args)
   (s.post enc C.prog fn false true false false) := by
 refine returnsInHanded_of_calls own started noInit witness ?_
 intro w tape i _ hsh _ hok hpre hholds
 obtain ⟨_, _, _, fn', hfn', _, _, _, _, hval⟩ := hok
 have e : fn' = fn := Option.some.inj (hfn'.symm.trans hfn)
 subst e
 obtain ⟨⟨⟨ds, gs, before, hw, hc⟩, hx⟩, hz⟩ := hpre
 have hw' := DataW.Whole.of_heap (w' := w.forCall tape i) (by rfl) hw
 have hwt := hz.weights hw
 have hx' : laidMetH C.prog laid (w.forCall tape i) := hx.of_heap (by rfl)
 have hW := hw'
 obtain ⟨p, q, hA, hV, rfl, _, _⟩ := hw'
 rw [hvars] at hV
 obtain ⟨rfl, rfl⟩ := trodVars_none hV
 simp only [List.append_nil] at hW
 have hlen : ∀ {ts : List TypeId} {vs : List Value} {ds : List (DataW H)} {ps : List MemPlace}, DataW.TrodAll enc C.prog (w.forCall tape i) 0 (fun _ => true) true ts vs ds ps → ds.length = ts.length := by
  intro ts
  induction ts with
  | nil => intro vs ds ps h; cases vs <;> cases ds <;> first | rfl | exact h.elim
  | cons t ts ih =>
   intro vs ds ps h
   cases vs with
   | nil => cases ds <;> exact h.elim
   | cons v vs =>
    cases ds with
    | nil => exact h.elim
    | cons d ds => obtain ⟨_, _, _, h2, _⟩ := h; simp [ih h2]
 have hwt' : (DataW.weightsEach C.prog fn'.params.toList ds).all (· ≤ reachBytes) = true := by
  have e1 : (OpenSpec.ofChange s).bare.plain.varTypes C.prog = [] := by
   show s.vars.filterMap _ = [] <;> simp [hvars]
  have := hwt
  simp only [List.append_nil] at this
  rw [e1] at this
  simpa using this
 refine (contract (w.forCall tape i) w.heap.size i.args ds p hval hA hwt' hx' hsh).mono fun e W' ⟨v, he, hv, hb⟩ => ?_
 subst he; subst hv
 have hlt := hW.lt
 have hsf := hsfn ds (hlen hA)
 refine ChangeSpec.post_blind ⟨ds, [], p, [], p, [], hW, ?_, ?_, ?_, hb.frame _, fun h => by cases h⟩
 ·rw [List.append_nil, hsf]
  have : (Value.bool true).resultList fn'.resultTypes.size = [.bool true] := by rw [hres]; rfl
  rw [this, hres]
  exact trodAll_mk1 (shut_bool hbool _)
 ·rw [List.append_nil, hsf]
  exact Below.trodAll hl hb hpar hlt hA
 ·rw [List.append_nil, hsf, hvars]
  rfl
end Go.KW
