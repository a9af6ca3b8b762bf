/- Maps: their keys, their blocks, the operations on them. In plain Lean a map is the list of its entries, in the order in which they were laid. -/
import Derived.Test.YtkhodjenbganfaaGreatDoorKwTag2
import Derived.Maps.Keyed
import Derived.Maps.RangeRun
set_option linter.unusedSectionVars false
set_option linter.unusedVariables false
set_option linter.unusedSimpArgs false
namespace Go.KW
open Go Go.RowKit

def EqCell (P : Program) (t : TypeId) (a b : Value) (r : Bool) : Prop := ∀ (d : Nat) (w : World), (Op.equalIn (d + 1) t a b).run P w = .ok r w
theorem eqCell_int {P : Program} {t : TypeId} {k : IntKind} (h : P.underlying t = some (.int k)) (a b : Int) : EqCell P t (.int k a) (.int k b) (a == b) := fun d w => run_equalIn_int w d t k k a b h
theorem str_beq (a b : Str) : ((⟨a.toArray⟩ : ByteArray).toList == (⟨b.toArray⟩ : ByteArray).toList) = (a == b) := by
 rw [ByteArray.toList_eq, ByteArray.toList_eq]
inductive EqFs (P : Program) (xs ys : Array Value) : List Field → List Bool → Prop
 | nil : EqFs P xs ys [] []
 | cons {f : Field} {fs : List Field} {r : Bool} {rs : List Bool} {a b : Value} : f.name ≠ "_" → (∀ w, (isAgg f.type).run P w = .ok false w) → xs[f.offset]? = some a → ys[f.offset]? = some b → EqCell P f.type a b r → EqFs P xs ys fs rs → EqFs P xs ys (f :: fs) (r :: rs)
theorem run_part {P : Program} {t : TypeId} {cs : Array Value} {o : Nat} {a : Value} (ht : ∀ w, (isAgg t).run P w = .ok false w) (h : cs[o]? = some a) (w : World) : (part t cs o).run P w = .ok a w := by
 simp [part, ht, h]
theorem run_eqFs {P : Program} {xs ys : Array Value} (d : Nat) (w : World) {fs : List Field} {rs : List Bool} (h : EqFs P xs ys fs rs) : (Op.eqFields (d + 1) xs ys fs).run P w = .ok (rs.all id) w := by
 induction h with
 | nil => simp [Op.eqFields]
 | @cons f fs r rs a b hn ha h1 h2 h3 _ ih =>
  simp only [Op.eqFields, hn, ne_eq, not_false_eq_true, if_true, Sem.run_bind, run_part ha h1 w, run_part ha h2 w, Result.andThen_ok, h3 d w]
  cases r
  ·simp
  ·simpa using ih
theorem eqAgg_of {P : Program} {U : TypeId} {fs : Array Field} {xs ys : Array Value} {rs : List Bool} {r : Bool} (hU : P.underlying U = some (.struct fs)) (hp : P.stoodInHeld U = false) (hg : P.eqGuardType P.depth U = false)
  (h : EqFs P xs ys fs.toList rs) (hr : rs.all id = r) : EqAgg P U xs ys r := by
 intro w
 refine ⟨fun op x y => ?_, ?_⟩
 ·cases op <;> simp [eqGuard, run_program, hg]
 ·have hfs : P.fieldsOf U = fs := by simp [Program.fieldsOf, hU]
  show (Op.equalIn (9999 + 1) U (.agg xs) (.agg ys)).run P w = _
  rw [run_equalIn_struct w 9999 U xs ys (by rw [hfs]; exact hU) hp, hfs, run_eqFs 9998 w h, hr]

def findAt {K : Type} [DecidableEq K] (k : K) : List K → List MapEntry → Nat → Option (Nat × Value)
 | k' :: ks, e :: es, i => if k = k' then some (i, e.val) else findAt k ks es (i + 1)
 | _, _, _ => none
structure KeyB (P : Program) (t : TypeId) {K : Type} [DecidableEq K] (enc : K → Value) : Prop where
 check : ∀ (w : World) (em : Bool) (k : K), (Instr.checkKey em 10000 t (enc k)).run P w = .ok () w
 find : ∀ (w : World) (k : K) (es : List MapEntry) (ks : List K), es.map (·.key) = ks.map enc → (Instr.findKey t (enc k) es).run P w = .ok (findAt k ks es 0) w
 stays : ∀ (w : World) (k : K), (Instr.keyThatStays (enc k) (enc k)).run P w = .ok (enc k) w
theorem run_checkKey_str {P : Program} {t : TypeId} (h : P.underlying t = some .string) (em : Bool) (n : Nat) (a : Str) (w : World) : (Instr.checkKey em (n + 1) t (str a)).run P w = .ok () w := by simp [Instr.checkKey, run_underlying h, str]
theorem keyB_str {P : Program} {t : TypeId} (h : P.underlying t = some .string) : KeyB P t str := by
 refine ⟨fun w em k => ?_, fun w k es ks hk => ?_, fun w k => ?_⟩
 ·exact run_checkKey_str h em 9999 k w
 ·have key : ∀ (es : List MapEntry) (ks : List Str) (i : Nat), es.map (·.key) = ks.map str → Instr.findNow .string (str k) es i = some (findAt k ks es i) := by
   intro es
   induction es with
   | nil => intro ks i h; cases ks with | nil => rfl | cons _ _ => simp at h
   | cons e es ih =>
    intro ks i h
    cases ks with
    | nil => simp at h
    | cons k' ks =>
     simp only [List.map_cons, List.cons.injEq] at h
     have e1 : Instr.sameNow .string (str k) e.key = some (k == k') := by
      rw [h.1]
      simp only [Instr.sameNow, str]
      rw [beq_toListBytes, str_beq]
     by_cases hkk : k = k'
     ·simp only [Instr.findNow, e1, findAt, if_pos hkk]
      rw [show (k == k') = true by simpa using hkk]
     ·simp only [Instr.findNow, e1, findAt, if_neg hkk]
      rw [show (k == k') = false by simpa using hkk]
      exact ih ks (i + 1) h.2
  simp [Instr.findKey, run_underlying h, key es ks 0 hk]
 ·have e : ((⟨k.toArray⟩ : ByteArray) == ⟨k.toArray⟩) = true := by rw [beq_toListBytes]; simp
  simp [Instr.keyThatStays, Instr.sameBits, str, e]
inductive ChkFs (P : Program) (xs : Array Value) : List Field → Prop
 | nil : ChkFs P xs []
 | cons {f : Field} {fs : List Field} {a : Value} : f.name ≠ "_" → (∀ w, (isAgg f.type).run P w = .ok false w) → xs[f.offset]? = some a → (∀ w em n, (Instr.checkKey em (n + 1) f.type a).run P w = .ok () w) → ChkFs P xs fs → ChkFs P xs (f :: fs)
section
variable {K V : Type} [DecidableEq K]
def mfind (k : K) : List (K × V) → Option V
 | [] => none
 | p :: r => if k = p.1 then some p.2 else mfind k r
def mputL (k : K) (x : V) : List (K × V) → List (K × V)
 | [] => [(k, x)]
 | p :: r => if k = p.1 then (k, x) :: r else p :: mputL k x r
def mdelL (k : K) : List (K × V) → List (K × V)
 | [] => []
 | p :: r => if k = p.1 then r else p :: mdelL k r
abbrev GMap (K V : Type) := Option (List (K × V))
def mgetD (m : GMap K V) (k : K) (z : V) : V := (mfind k (m.getD [])).getD z
def mhas (m : GMap K V) (k : K) : Bool := (mfind k (m.getD [])).isSome
def mdel (m : GMap K V) (k : K) : GMap K V := m.map (mdelL k)
def mput (m : GMap K V) (k : K) (x : V) : GMap K V := m.map (mputL k x)
def mlen (m : GMap K V) : Int := ((m.getD []).length : Int)
def mleft (m : GMap K V) (done : List K) : List (K × V) := (m.getD []).filter fun p => decide (p.1 ∉ done)

theorem findAt_spec {k : K} : ∀ (m : List (K × V)) (es : List MapEntry) (i : Nat), es.length = m.length →
  (findAt k (m.map Prod.fst) es i = none ∧ mfind k m = none ∧ (∀ x, mputL k x m = m ++ [(k, x)]) ∧ mdelL k m = m ∧ ∀ p ∈ m, p.1 ≠ k) ∨
  ∃ j e p, es[j]? = some e ∧ m[j]? = some p ∧ p.1 = k ∧ findAt k (m.map Prod.fst) es i = some (i + j, e.val) ∧ mfind k m = some p.2 ∧ (∀ x, mputL k x m = m.set j (k, x)) ∧ mdelL k m = m.eraseIdx j
 | [], [], i, _ => .inl ⟨rfl, rfl, fun _ => rfl, rfl, fun _ h => by cases h⟩
 | [], _ :: _, _, h => by simp at h
 | _ :: _, [], _, h => by simp at h
 | p :: m, e :: es, i, h => by
  by_cases hk : k = p.1
  ·refine .inr ⟨0, e, p, rfl, rfl, hk.symm, ?_, ?_, fun x => ?_, ?_⟩
   ·simp [findAt, hk]
   ·simp [mfind, hk]
   ·simp [mputL, hk]
   ·simp [mdelL, hk]
  ·rcases findAt_spec m es (i + 1) (by simpa using h) with ⟨h1, h2, h3, h4, h5⟩ | ⟨j, e', p', h1, h2, h3, h4, h5, h6, h7⟩
   ·refine .inl ⟨?_, ?_, fun x => ?_, ?_, fun q hq => ?_⟩
    ·simpa [findAt, hk] using h1
    ·simpa [mfind, hk] using h2
    ·simp [mputL, hk, h3]
    ·simp [mdelL, hk, h4]
    ·rcases List.mem_cons.1 hq with rfl | hq
     ·exact fun e => hk e.symm
     ·exact h5 q hq
   ·refine .inr ⟨j + 1, e', p', by simpa using h1, by simpa using h2, h3, ?_, ?_, fun x => ?_, ?_⟩
    ·simp only [List.map_cons, findAt, hk, if_false, h4]; congr 2; omega
    ·simpa [mfind, hk] using h5
    ·simp [mputL, hk, h6]
    ·simp [mdelL, hk, h7]
end

def vOf (agg : Bool) (cs : List Value) : Value := if agg then .agg cs.toArray else cs.headD undef
theorem List.map_eraseIdx_ {α β : Type} (f : α → β) : ∀ (l : List α) (j : Nat), (l.eraseIdx j).map f = (l.map f).eraseIdx j
 | [], _ => rfl
 | _ :: _, 0 => rfl
 | a :: l, j + 1 => by simp [List.map_eraseIdx_ f l j]
section
variable {K V : Type} [DecidableEq K]
structure MapL (ek : K → Value) (c : Cdc V) (agg : Bool) (A : Nat → Prop) (w : World) (es : List MapEntry) (clock : Nat) (m : List (K × V)) : Prop where
 keys : es.map (·.key) = m.map fun p => ek p.1
 nodup : (m.map Prod.fst).Nodup
 born : (es.map (·.born)).Nodup
 lt : ∀ e ∈ es, e.born < clock
 vals : ∀ (j : Nat) (e : MapEntry) (p : K × V), es[j]? = some e → m[j]? = some p → ∃ cs, e.val = vOf agg cs ∧ c.rd A w cs p.2
def MapT (ek : K → Value) (c : Cdc V) (agg : Bool) (ρ : Tags) (i : Nat) (w : World) (v : Value) (m : GMap K V) : Prop :=
 (m = none ∧ v = .map none) ∨ ∃ g l es clock, m = some l ∧ v = .map (some g) ∧ ρ g = i ∧ w.heap[g]? = some (.map es clock) ∧ MapL ek c agg (Wb ρ) w es.toList clock l
variable {ek : K → Value} {c : Cdc V} {agg : Bool} {ρ ρ' : Tags} {i i' : Nat} {w w' : World} {v : Value} {m : GMap K V} {es : List MapEntry} {clock : Nat} {l : List (K × V)} {A A' : Nat → Prop}
theorem MapL.len (h : MapL ek c agg A w es clock l) : es.length = l.length := by
 have := congrArg List.length h.keys
 simpa using this
theorem MapL.step (h : MapL ek c agg A w es clock l) (s : St A w A' w') : MapL ek c agg A' w' es clock l :=
 ⟨h.keys, h.nodup, h.born, h.lt, fun j e p h1 h2 => by obtain ⟨cs, h3, h4⟩ := h.vals j e p h1 h2; exact ⟨cs, h3, c.step h4 s⟩⟩
theorem MapT.nil : MapT ek c agg ρ i w (.map none) (none : GMap K V) := .inl ⟨rfl, rfl⟩
theorem MapT.mv (h : MapT ek c agg ρ i w v m) (k : Mv ρ w i ρ' w' i') : MapT ek c agg ρ' i' w' v m := by
 rcases h with h | ⟨g, l, es, clock, h1, h2, h3, h4, h5⟩
 ·exact .inl h
 ·have hlt : g < w.heap.size := (Array.getElem?_eq_some_iff.1 h4).1
  obtain ⟨k1, k2⟩ := k.own g hlt h3
  exact .inr ⟨g, l, es, clock, h1, h2, k2, k1.trans h4, h5.step k.st⟩

theorem MapL.put (h : MapL ek c agg A w es clock l) {k : K} {x : V} {u : Value} {cs : List Value} (hu : u = vOf agg cs) (hr : c.rd A w cs x) :
  (findAt k (l.map Prod.fst) es 0 = none ∧ MapL ek c agg A w (es ++ [⟨ek k, u, clock⟩]) (clock + 1) (mputL k x l)) ∨
  ∃ j e, findAt k (l.map Prod.fst) es 0 = some (j, e.val) ∧ es[j]? = some e ∧ e.key = ek k ∧ MapL ek c agg A w (es.set j { e with key := ek k, val := u }) clock (mputL k x l) := by
 rcases findAt_spec (k := k) l es 0 h.len with ⟨h1, h2, h3, h4, h5⟩ | ⟨j, e, p, h1, h2, h3, h4, h5, h6, h7⟩
 ·refine .inl ⟨h1, ?_⟩
  rw [h3]
  refine ⟨by simp [h.keys], ?_, ?_, fun e he => ?_, fun j e p he hp => ?_⟩
  ·rw [List.map_append, List.nodup_append]
   refine ⟨h.nodup, by simp, fun a ha b hb => ?_⟩
   simp at hb; subst hb
   obtain ⟨q, hq, rfl⟩ := List.mem_map.1 ha
   exact h5 q hq
  ·rw [List.map_append, List.nodup_append]
   refine ⟨h.born, by simp, fun a ha b hb => ?_⟩
   simp at hb; subst hb
   obtain ⟨q, hq, rfl⟩ := List.mem_map.1 ha
   have := h.lt q hq; omega
  ·rcases List.mem_append.1 he with he | he
   ·have := h.lt e he; omega
   ·simp at he; subst he; simp
  ·by_cases hj : j < es.length
   ·rw [List.getElem?_append_left hj] at he
    rw [List.getElem?_append_left (by rw [← h.len]; exact hj)] at hp
    exact h.vals j e p he hp
   ·rw [List.getElem?_append_right (by omega)] at he
    rw [List.getElem?_append_right (by rw [← h.len]; omega)] at hp
    rw [← h.len] at hp
    by_cases h0 : j - es.length = 0
    ·rw [h0] at he hp
     simp at he hp
     subst he; subst hp
     exact ⟨cs, hu, hr⟩
    ·rw [List.getElem?_eq_none (by simp; omega)] at he; cases he
 ·refine .inr ⟨j, e, by simpa using h4, h1, ?_, ?_⟩
  ·have e1 : (es.map (·.key))[j]? = some e.key := by rw [List.getElem?_map, h1]; rfl
   rw [h.keys, List.getElem?_map, h2] at e1
   simp only [Option.map_some, Option.some.injEq] at e1
   rw [← e1, h3]
  rw [h6]
  have hj := (List.getElem?_eq_some_iff.1 h1).1
  have hj2 := (List.getElem?_eq_some_iff.1 h2).1
  have b1 : (es.set j { e with key := ek k, val := u }).map (·.born) = es.map (·.born) := by
   apply List.ext_getElem?
   intro q
   rw [List.getElem?_map, List.getElem?_map]
   by_cases e2 : j = q
   ·subst e2; rw [List.getElem?_set_self hj, h1]; rfl
   ·rw [List.getElem?_set_ne e2]
  have b2 : (l.set j (k, x)).map Prod.fst = l.map Prod.fst := by
   apply List.ext_getElem?
   intro q
   rw [List.getElem?_map, List.getElem?_map]
   by_cases e2 : j = q
   ·subst e2; rw [List.getElem?_set_self hj2, h2]; simp [h3]
   ·rw [List.getElem?_set_ne e2]
  refine ⟨?_, by rw [b2]; exact h.nodup, by rw [b1]; exact h.born, fun e' he' => ?_, fun q e' p' he' hp' => ?_⟩
  ·apply List.ext_getElem?
   intro q
   rw [List.getElem?_map, List.getElem?_map]
   by_cases e2 : j = q
   ·subst e2; rw [List.getElem?_set_self hj, List.getElem?_set_self hj2]; rfl
   ·rw [List.getElem?_set_ne e2, List.getElem?_set_ne e2, ← List.getElem?_map, h.keys, List.getElem?_map]
  ·rcases List.mem_or_eq_of_mem_set he' with he' | rfl
   ·exact h.lt e' he'
   ·exact h.lt e (List.mem_of_getElem? h1)
  ·by_cases e2 : j = q
   ·subst e2
    rw [List.getElem?_set_self hj] at he'
    rw [List.getElem?_set_self hj2] at hp'
    cases he'; cases hp'
    exact ⟨cs, hu, hr⟩
   ·rw [List.getElem?_set_ne e2] at he' hp'
    exact h.vals q e' p' he' hp'
theorem MapL.del (h : MapL ek c agg A w es clock l) (k : K) :
  (findAt k (l.map Prod.fst) es 0 = none ∧ mdelL k l = l) ∨
  ∃ j e, findAt k (l.map Prod.fst) es 0 = some (j, e.val) ∧ es[j]? = some e ∧ MapL ek c agg A w (es.eraseIdx j) clock (mdelL k l) := by
 rcases findAt_spec (k := k) l es 0 h.len with ⟨h1, h2, h3, h4, h5⟩ | ⟨j, e, p, h1, h2, h3, h4, h5, h6, h7⟩
 ·exact .inl ⟨h1, h4⟩
 ·refine .inr ⟨j, e, by simpa using h4, h1, ?_⟩
  rw [h7]
  refine ⟨?_, ?_, ?_, fun e' he' => h.lt e' ((List.eraseIdx_sublist _ _).subset he'), fun q e' p' he' hp' => ?_⟩
  ·rw [List.map_eraseIdx_, List.map_eraseIdx_, h.keys]
  ·exact h.nodup.sublist (by rw [List.map_eraseIdx_]; exact List.eraseIdx_sublist _ _)
  ·exact h.born.sublist (by rw [List.map_eraseIdx_]; exact List.eraseIdx_sublist _ _)
  ·rw [List.getElem?_eraseIdx] at he' hp'
   split at he'
   ·rename_i hq; rw [if_pos hq] at hp'; exact h.vals q e' p' he' hp'
   ·rename_i hq; rw [if_neg hq] at hp'; exact h.vals (q + 1) e' p' he' hp'
end
end Go.KW
