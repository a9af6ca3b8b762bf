/- The keys of a map, sorted: 'slices.Sorted(maps.Keys(m))'. -/
import Derived.Test.YtmdbnoopcdpomaaGreatDoorKwMap3
import Derived.Test.YtmdbnoopcdpomaaGreatDoorKwNext
import Derived.Sort.KeysCollected
import Derived.CallsIn
set_option linter.unusedSectionVars false
set_option linter.unusedVariables false
set_option linter.unusedSimpArgs false
namespace Go.KW
open Go Go.RowKit

def lib_SortedKeys {V : Type} (m : GMap Str V) : Option (List Str) :=
  chk (decide ((m.getD []).length ≤ 8796093022208) && (m.getD []).all fun p => decide (p.1.length ≤ maxLen)) (some (sortS ((m.getD []).map Prod.fst)))

theorem fits_fresh {E : TypeId} {A : Nat → Prop} {B : Nat} {w w0 w' : World} {v : Value} {xs : List Str} (hA : ∀ b, A b → b < w.heap.size) (hB : B ≤ w.heap.size) (hle : w.heap.size ≤ w0.heap.size) (ho : w'.ownsRow w0.heap.size E 1 v xs.length (xs.map str))
    (hb : Below w.heap.size w w') : Fresh strC E A B w xs v w' := by
  have hlt := ho.lt
  refine ⟨fun b => A b ∨ v.ownBlock = some b, ownS_str (ownsRow_base ho (Nat.le_trans hB hle)) (fun g hg => .inr hg), ⟨fun b h1 _ => hb.block b h1, hb.size, fun b h1 => h1.imp id fun h1 => ?_⟩, hb, fun b h => .inl h, fun b h1 => ?_, fun b h1 => ?_⟩
  · have := (hlt b h1).1; omega
  · rcases h1 with h1 | h1
    · have := hA b h1; have := hb.size; omega
    · exact (hlt b h1).2
  · have := (hlt b h1).1; omega
section
variable {P : Program} {V : Type} {c : Cdc V} {agg : Bool} {ρ : Tags} {i : Nat} {w : World} {v : Value} {m : GMap Str V} {kt : TypeId}

theorem keyOf_strV (hk : P.underlying kt = some .string) {s : Str} (h : s.length ≤ maxLen) : keyOf P kt (str s) = some (.string s) := by
  have h' : (⟨s.toArray⟩ : ByteArray).size ≤ maxLen := by show s.toArray.size ≤ maxLen; simpa using h
  simp [keyOf, hk, mapKey, str, h']

/-- the datum of a map, its values left out -/
def keyD (l : List (Str × V)) : List (Lit × DataW Unit) := l.map fun p => (.string p.1, .nil)
theorem foldr_insert_perm (l : List (Lit × DataW Unit)) : (l.foldr DataW.insert []).Perm l := Go.WideShapes.sorted_perm l
/-- a map in memory as the kit speaks of it -/
theorem MapT.owns (h : MapT str c agg ρ i w v m) (hk : P.underlying kt = some .string) (hlen : (m.getD []).length ≤ 8796093022208) (hs : ∀ p ∈ m.getD [], p.1.length ≤ maxLen) :
    (m = none ∧ v = .map none) ∨ ∃ b nn, v = .map (some b) ∧ ∃ D0 : DataW Unit, w.ownsMap P kt (fun _ => some (DataW.nil, [])) b nn D0 ∧ Maps.size D0 = (m.getD []).length ∧ (strKeys D0).Perm ((m.getD []).map Prod.fst) := by
  rcases h with h | ⟨g, l, es, clock, rfl, rfl, h3, h4, h5⟩
  · exact .inl h
  · right
    simp only [Option.getD_some] at hlen hs ⊢
    have hl := h5.len
    have hrd : ∀ x ∈ es.toList, ∃ p ∈ l, x.key = str p.1 ∧ WideElems.rd (H := Unit) P kt (fun _ => some (DataW.nil, [])) x = some (.string p.1, .nil) := by
      intro x hx
      obtain ⟨q, hq⟩ := List.mem_iff_getElem?.1 hx
      have hql := (List.getElem?_eq_some_iff.1 hq).1
      have hp : l[q]? = some l[q] := List.getElem?_eq_getElem (by omega)
      have e1 : (es.toList.map (·.key))[q]? = some x.key := by rw [List.getElem?_map, hq]; rfl
      rw [h5.keys, List.getElem?_map, hp] at e1
      simp only [Option.map_some, Option.some.injEq] at e1
      refine ⟨l[q], List.mem_of_getElem? hp, e1.symm, ?_⟩
      unfold WideElems.rd
      rw [← e1, keyOf_strV hk (hs _ (List.mem_of_getElem? hp))]
      rfl
    have hmap : es.toList.map (WideElems.rg (H := Unit) P kt (fun _ => some (DataW.nil, []))) = keyD l := by
      apply List.ext_getElem?
      intro q
      unfold keyD
      rw [List.getElem?_map, List.getElem?_map]
      by_cases hq : q < es.toList.length
      · have hx : es.toList[q]? = some es.toList[q] := List.getElem?_eq_getElem hq
        have hp : l[q]? = some l[q] := List.getElem?_eq_getElem (by omega)
        have e1 : (es.toList.map (·.key))[q]? = some es.toList[q].key := by rw [List.getElem?_map, hx]; rfl
        rw [h5.keys, List.getElem?_map, hp] at e1
        simp only [Option.map_some, Option.some.injEq] at e1
        rw [hx, hp]
        simp only [Option.map_some, Option.some.injEq, WideElems.rg, WideElems.rd]
        rw [← e1, keyOf_strV hk (hs _ (List.mem_of_getElem? hp))]
        rfl
      · rw [List.getElem?_eq_none (by omega), List.getElem?_eq_none (by omega)]; rfl
    refine ⟨g, es.size, rfl, _, ⟨es, clock, h4, ⟨?_, ?_, fun x hx => ?_⟩, Nat.le_refl _, rfl⟩, ?_, ?_⟩
    · simp only [Array.length_toList] at hl; simp only [maxLen]; omega
    · rw [MapKept.stamped_iff]
      refine ⟨h5.lt, h5.born, ?_⟩
      have hn : (l.map fun p => str p.1).Pairwise (fun a b => a ≠ b) := by
        have := h5.nodup
        rw [List.Nodup, List.pairwise_map] at this
        rw [List.pairwise_map]
        exact this.imp fun {a b} hab e => hab (by simpa [str] using e)
      rw [← h5.keys, List.pairwise_map] at hn
      exact hn
    · obtain ⟨p, _, _, hp⟩ := hrd x hx
      exact ⟨_, hp⟩
    · rw [hmap]
      simp only [Maps.size]
      rw [(foldr_insert_perm _).length_eq]; simp [keyD]
    · rw [hmap]
      simp only [strKeys]
      refine ((foldr_insert_perm (keyD l)).map _).trans ?_
      unfold keyD
      rw [List.map_map]
      exact .of_eq (List.map_congr_left fun p _ => rfl)
end

theorem keys_call {P : Program} {fK fI tM : Nat} {V : Type} {c : Cdc V} {agg : Bool} {ρ : Tags} {i : Nat} {w : World} {v : Value} {m : GMap Str V}
    (hK : ∀ (mb : Option Nat) (W : World), CallsIn Fence.wide 5 P fK #[.map mb] W fun e w' => e = .returned (.func (.func fI) #[] #[.pointer (some ⟨W.heap.size, 0, none⟩)]) ∧ w' = W.alloc (.cells #[.map mb] tM))
    (h : MapT str c agg ρ i w v m) : Calls P fK #[v] w (Ret fun u w' => u = .func (.func fI) #[] #[.pointer (some ⟨w.heap.size, 0, none⟩)] ∧ w' = w.alloc (.cells #[v] tM)) := by
  obtain ⟨g, rfl, _⟩ := h.isNone
  refine (callsIn_wide.1 (hK g w)).mono ?_
  rintro e w' ⟨rfl, rfl⟩
  exact ⟨_, rfl, rfl, rfl⟩
/-- the two calls -/
theorem sortedKeys_ok {P : Program} {fS fI tM kt E : Nat} {V : Type} {c : Cdc V} {agg : Bool} {ρ : Tags} {i : Nat} {w : World} {v : Value} {m : GMap Str V} {xs : List Str}
    (hk : P.underlying kt = some .string)
    (hS : ∀ (b nn : Nat) (D0 : DataW Unit) (R : Value → Option (DataW Unit × List MemPlace)) (w : World), w.ownsMap P kt R b nn D0 → Maps.size D0 ≤ maxLen → Maps.size D0 * 16 ≤ 140737488355328 →
      CallsIn Fence.wide 5 P fS #[.func (.func fI) #[] #[.pointer (some ⟨w.heap.size, 0, none⟩)]] (w.alloc (.cells #[.map (some b)] tM)) fun e w' => ∃ (v : Value) (ss : List (List UInt8)), e = .returned v ∧ ss.Perm (strKeys D0) ∧
        w'.ownsRow (w.alloc (.cells #[.map (some b)] tM)).heap.size E 1 v ss.length ((ss.mergeSort (fun x y => decide (x ≤ y))).map Go.Proofs.encStr) ∧ (v = .slice none 0 0 ↔ ss = []) ∧ Below (w.alloc (.cells #[.map (some b)] tM)).heap.size (w.alloc (.cells #[.map (some b)] tM)) w')
    (hS0 : ∀ (w : World), CallsIn Fence.wide 5 P fS #[.func (.func fI) #[] #[.pointer (some ⟨w.heap.size, 0, none⟩)]] (w.alloc (.cells #[.map none] tM)) fun e w' => ∃ (v : Value) (ss : List (List UInt8)), e = .returned v ∧ ss = [] ∧
        w'.ownsRow (w.alloc (.cells #[.map none] tM)).heap.size E 1 v ss.length ((ss.mergeSort (fun x y => decide (x ≤ y))).map Go.Proofs.encStr) ∧ (v = .slice none 0 0 ↔ ss = []) ∧ Below (w.alloc (.cells #[.map none] tM)).heap.size (w.alloc (.cells #[.map none] tM)) w')
    (h : MapT str c agg ρ i w v m) (hbd : ∀ b, ρ b ≠ 0 → b < w.heap.size) (hr : lib_SortedKeys m = some xs) :
    Calls P fS #[.func (.func fI) #[] #[.pointer (some ⟨w.heap.size, 0, none⟩)]] (w.alloc (.cells #[v] tM)) (Ret (Fresh strC E (Wb ρ) 0 w xs)) := by
  obtain ⟨hc, hr⟩ := chk_some hr
  cases hr
  simp only [Bool.and_eq_true, decide_eq_true_eq, List.all_eq_true] at hc
  have hal : ∀ (o : Obj), Below w.heap.size w (w.alloc o) := fun o => below_alloc w o
  have fin : ∀ (u : Value) (w' : World) (o : Obj) (ss : List Str), w'.ownsRow (w.alloc o).heap.size E 1 u ss.length ((ss.mergeSort (fun x y => decide (x ≤ y))).map Go.Proofs.encStr) → ss.Perm ((m.getD []).map Prod.fst) → Below (w.alloc o).heap.size (w.alloc o) w' →
      Fresh strC E (Wb ρ) 0 w (sortS ((m.getD []).map Prod.fst)) u w' := by
    intro u w' o ss ho hp hb
    have e : ss.mergeSort (fun x y => decide (x ≤ y)) = sortS ((m.getD []).map Prod.fst) := by
      rw [mergeSort_eq]
      exact sorted_unique ((sortS_perm _).trans (hp.trans (sortS_perm _).symm)) (sortS_sorted _) (sortS_sorted _)
    rw [e] at ho
    have el : ss.length = (sortS ((m.getD []).map Prod.fst)).length := by rw [hp.length_eq, (sortS_perm _).length_eq]
    rw [el] at ho
    have hsz : w.heap.size ≤ (w.alloc o).heap.size := (hal o).size
    exact fits_fresh (w0 := w.alloc o) hbd (Nat.zero_le _) hsz ho ((hal o).trans (hb.mono hsz))
  rcases h.owns (kt := kt) hk hc.1 (fun p hp => by simpa using hc.2 p hp) with ⟨rfl, rfl⟩ | ⟨b, nn, rfl, D0, h1, h2, h3⟩
  · refine (callsIn_wide.1 (hS0 w)).mono ?_
    rintro e w' ⟨u, ss, rfl, rfl, ho, _, hb⟩
    exact ⟨u, rfl, fin u w' _ [] ho (.refl _) hb⟩
  · refine (callsIn_wide.1 (hS b nn D0 _ w h1 (by rw [h2]; simp only [maxLen]; omega) (by rw [h2]; omega))).mono ?_
    rintro e w' ⟨u, ss, rfl, hp, ho, _, hb⟩
    exact ⟨u, rfl, fin u w' _ ss ho (hp.trans h3) hb⟩
end Go.KW
