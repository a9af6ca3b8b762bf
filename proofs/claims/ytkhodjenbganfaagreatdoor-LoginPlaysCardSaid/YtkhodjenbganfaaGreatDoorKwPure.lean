/- The operations that neither read nor write memory: each yields a value that is known from the live slots. -/
import Derived.Test.YtkhodjenbganfaaGreatDoorKwCore
namespace Go.KW
open Go Go.RowKit

section
variable {P : Program} {l : Env} {t : TypeId} {w : World}

theorem ev_move {x : Operand} {v : Value} (h : look l x = some v) : Ev P l (.move x) t w v := by
 intro a n d pos after g ha
 simp [execOp, ha.look h]
theorem ev_assign {x : Operand} {v : Value} (h : look l x = some v) : Ev P l (.assign x) t w v := by
 intro a n d pos after g ha
 simp [execOp, ha.look h]
theorem ev_pick_t {c x y : Operand} {u : Value} {b : Bool} (hc : look l c = some (.bool b)) (hb : b = true) (hx : look l x = some u) :
  Ev P l (.pick c x y) t w u := by
 intro a n d pos after g ha
 subst hb
 simp [execOp, ha.look hc, ha.look hx, asBool]
theorem ev_pick_f {c x y : Operand} {v : Value} {b : Bool} (hc : look l c = some (.bool b)) (hb : b = false) (hy : look l y = some v) :
  Ev P l (.pick c x y) t w v := by
 intro a n d pos after g ha
 subst hb
 simp [execOp, ha.look hc, ha.look hy, asBool]

theorem run_eqGuard_int (op : BinOp) (T : TypeId) (x y : Operand) (k k' : IntKind) (a b : Int) (w : World) : (eqGuard op T x y (.int k a) (.int k' b)).run P w = .ok () w := by
 cases op <;> rfl
theorem run_eqGuard_string (op : BinOp) (T : TypeId) (x y : Operand) (a b : ByteArray) (w : World) : (eqGuard op T x y (.string a) (.string b)).run P w = .ok () w := by
 cases op <;> rfl
theorem run_eqGuard_bool (op : BinOp) (T : TypeId) (x y : Operand) (a b : Bool) (w : World) : (eqGuard op T x y (.bool a) (.bool b)).run P w = .ok () w := by
 cases op <;> rfl

section ints
variable {x y : Operand} {k : IntKind} {a b : Int} {T U : TypeId}
theorem ev_add (hx : look l x = some (.int k a)) (hy : look l y = some (.int k b)) : Ev P l (.binOp .add T x y U) t w (.int k (k.wrap (a + b))) := by
 intro c n d pos after g ha
 simp [execOp, ha.look hx, ha.look hy, run_eqGuard_int, binOp, Op.intArith]
theorem ev_sub (hx : look l x = some (.int k a)) (hy : look l y = some (.int k b)) : Ev P l (.binOp .sub T x y U) t w (.int k (k.wrap (a - b))) := by
 intro c n d pos after g ha
 simp [execOp, ha.look hx, ha.look hy, run_eqGuard_int, binOp, Op.intArith]
theorem ev_mul (hx : look l x = some (.int k a)) (hy : look l y = some (.int k b)) : Ev P l (.binOp .mul T x y U) t w (.int k (k.wrap (a * b))) := by
 intro c n d pos after g ha
 simp [execOp, ha.look hx, ha.look hy, run_eqGuard_int, binOp, Op.intArith]
theorem ev_quo (hx : look l x = some (.int k a)) (hy : look l y = some (.int k b)) (hb : (b != 0) = true) : Ev P l (.binOp .quo T x y U) t w (.int k (k.wrap (a.tdiv b))) := by
 intro c n d pos after g ha
 have h0 : b ≠ 0 := by simpa using hb
 simp [execOp, ha.look hx, ha.look hy, run_eqGuard_int, binOp, Op.intDiv, h0]
theorem ev_rem (hx : look l x = some (.int k a)) (hy : look l y = some (.int k b)) (hb : (b != 0) = true) : Ev P l (.binOp .rem T x y U) t w (.int k (a.tmod b)) := by
 intro c n d pos after g ha
 have h0 : b ≠ 0 := by simpa using hb
 simp [execOp, ha.look hx, ha.look hy, run_eqGuard_int, binOp, Op.intDiv, h0]
def bAnd (k : IntKind) (a b : Int) : Int := k.wrap (BitVec.ofInt k.bits a &&& BitVec.ofInt k.bits b).toNat
def bOr (k : IntKind) (a b : Int) : Int := k.wrap (BitVec.ofInt k.bits a ||| BitVec.ofInt k.bits b).toNat
def bXor (k : IntKind) (a b : Int) : Int := k.wrap (BitVec.ofInt k.bits a ^^^ BitVec.ofInt k.bits b).toNat
theorem ev_and (hx : look l x = some (.int k a)) (hy : look l y = some (.int k b)) : Ev P l (.binOp .and T x y U) t w (.int k (bAnd k a b)) := by
 intro c n d pos after g ha
 simp [execOp, ha.look hx, ha.look hy, run_eqGuard_int, binOp, Op.intBits, bAnd]
theorem ev_or (hx : look l x = some (.int k a)) (hy : look l y = some (.int k b)) : Ev P l (.binOp .or T x y U) t w (.int k (bOr k a b)) := by
 intro c n d pos after g ha
 simp [execOp, ha.look hx, ha.look hy, run_eqGuard_int, binOp, Op.intBits, bOr]
theorem ev_xor (hx : look l x = some (.int k a)) (hy : look l y = some (.int k b)) : Ev P l (.binOp .xor T x y U) t w (.int k (bXor k a b)) := by
 intro c n d pos after g ha
 simp [execOp, ha.look hx, ha.look hy, run_eqGuard_int, binOp, Op.intBits, bXor]
def bShl (k : IntKind) (a b : Int) : Int := k.wrap (a * 2 ^ (min b.toNat k.bits))
def bShr (k : IntKind) (a b : Int) : Int := a.fdiv (2 ^ (min b.toNat k.bits))
theorem ev_shl {k' : IntKind} (hx : look l x = some (.int k a)) (hy : look l y = some (.int k' b)) (hb : decide (0 ≤ b) = true) : Ev P l (.binOp .shl T x y U) t w (.int k (bShl k a b)) := by
 intro c n d pos after g ha
 have h0 : ¬ b < 0 := by simpa using hb
 simp [execOp, ha.look hx, ha.look hy, run_eqGuard_int, binOp, Op.shift, bShl, h0]
theorem ev_shr {k' : IntKind} (hx : look l x = some (.int k a)) (hy : look l y = some (.int k' b)) (hb : decide (0 ≤ b) = true) : Ev P l (.binOp .shr T x y U) t w (.int k (bShr k a b)) := by
 intro c n d pos after g ha
 have h0 : ¬ b < 0 := by simpa using hb
 simp [execOp, ha.look hx, ha.look hy, run_eqGuard_int, binOp, Op.shift, bShr, h0]
theorem ev_eq (hx : look l x = some (.int k a)) (hy : look l y = some (.int k b)) : Ev P l (.binOp .eql T x y U) t w (.bool (a == b)) := by
 intro c n d pos after g ha
 simp [execOp, ha.look hx, ha.look hy, run_eqGuard_int, binOp, Op.intCmp]
theorem ev_ne (hx : look l x = some (.int k a)) (hy : look l y = some (.int k b)) : Ev P l (.binOp .neq T x y U) t w (.bool (a != b)) := by
 intro c n d pos after g ha
 simp [execOp, ha.look hx, ha.look hy, run_eqGuard_int, binOp, Op.intCmp]
theorem ev_lt (hx : look l x = some (.int k a)) (hy : look l y = some (.int k b)) : Ev P l (.binOp .lss T x y U) t w (.bool (decide (a < b))) := by
 intro c n d pos after g ha
 simp [execOp, ha.look hx, ha.look hy, run_eqGuard_int, binOp, Op.intCmp]
theorem ev_le (hx : look l x = some (.int k a)) (hy : look l y = some (.int k b)) : Ev P l (.binOp .leq T x y U) t w (.bool (decide (a ≤ b))) := by
 intro c n d pos after g ha
 simp [execOp, ha.look hx, ha.look hy, run_eqGuard_int, binOp, Op.intCmp]
theorem ev_gt (hx : look l x = some (.int k a)) (hy : look l y = some (.int k b)) : Ev P l (.binOp .gtr T x y U) t w (.bool (decide (a > b))) := by
 intro c n d pos after g ha
 simp [execOp, ha.look hx, ha.look hy, run_eqGuard_int, binOp, Op.intCmp]
theorem ev_ge (hx : look l x = some (.int k a)) (hy : look l y = some (.int k b)) : Ev P l (.binOp .geq T x y U) t w (.bool (decide (a ≥ b))) := by
 intro c n d pos after g ha
 simp [execOp, ha.look hx, ha.look hy, run_eqGuard_int, binOp, Op.intCmp]
theorem ev_conv {k' : IntKind} (hT : P.underlying U = some (.int k')) {d0 : TypeDesc} (hs : P.underlying T = some d0) (hx : look l x = some (.int k a)) : Ev P l (.convert T U x) t w (.int k' (k'.wrap a)) := by
 intro c n d pos after g ha
 simp [execOp, ha.look hx, convert, run_underlying hT, run_underlying hs, Conv.intToInt]
theorem ev_neg (hx : look l x = some (.int k a)) : Ev P l (.unOp .neg T x) t w (.int k (k.wrap (0 - a))) := by
 intro c n d pos after g ha
 simp [execOp, ha.look hx, Op.unary, Op.intArith]
def gmin (a b : Int) : Int := if b < a then b else a
def gmax (a b : Int) : Int := if b > a then b else a
theorem ev_min {ts : Array TypeId} {k' : IntKind} (hx : look l x = some (.int k a)) (hy : look l y = some (.int k' b)) : Ev P l (.call { callee := .builtin .min, args := #[x, y], argTypes := ts }) t w (.int k (gmin a b)) := by
 intro c n d pos after g ha
 simp [execOp, resolve, invoke, builtin, ha.look hx, ha.look hy, Builtin.min_, Builtin.min2, gmin]
theorem ev_max {ts : Array TypeId} {k' : IntKind} (hx : look l x = some (.int k a)) (hy : look l y = some (.int k' b)) : Ev P l (.call { callee := .builtin .max, args := #[x, y], argTypes := ts }) t w (.int k (gmax a b)) := by
 intro c n d pos after g ha
 simp [execOp, resolve, invoke, builtin, ha.look hx, ha.look hy, Builtin.max_, Builtin.max2, gmax]
end ints

section bools
variable {x y : Operand} {a b : Bool} {T U : TypeId}
theorem ev_not (hx : look l x = some (.bool a)) : Ev P l (.unOp .not T x) t w (.bool (!a)) := by
 intro c n d pos after g ha
 simp [execOp, ha.look hx, Op.unary]
theorem ev_beq (hT : P.underlying T = some .bool) (hx : look l x = some (.bool a)) (hy : look l y = some (.bool b)) : Ev P l (.binOp .eql T x y U) t w (.bool (a == b)) := by
 intro c n d pos after g ha
 have h := run_equalIn_bool' (P := P) w 9999 T a b hT
 have h2 : (Op.equal T (.bool a) (.bool b)).run P w = .ok (a == b) w := h
 simp only [execOp, ha.look hx, ha.look hy, Sem.run_bind, run_eqGuard_bool, Result.andThen_ok, binOp, h2, Sem.run_pure]
theorem ev_bne (hT : P.underlying T = some .bool) (hx : look l x = some (.bool a)) (hy : look l y = some (.bool b)) : Ev P l (.binOp .neq T x y U) t w (.bool (a != b)) := by
 intro c n d pos after g ha
 have h := run_equalIn_bool' (P := P) w 9999 T a b hT
 have h2 : (Op.equal T (.bool a) (.bool b)).run P w = .ok (a == b) w := h
 simp only [execOp, ha.look hx, ha.look hy, Sem.run_bind, run_eqGuard_bool, Result.andThen_ok, binOp, h2, Sem.run_pure]
 rfl
end bools

section strings
variable {x y : Operand} {a b : Str} {T U : TypeId}
theorem str_size (a : Str) : (⟨a.toArray⟩ : ByteArray).size = a.length := by simp [ByteArray.size]
def fitS (a b : Str) : Bool := decide (a.length + b.length ≤ 4611686018427387904)
theorem ev_cat (hx : look l x = some (str a)) (hy : look l y = some (str b)) (hf : fitS a b = true) : Ev P l (.binOp .add T x y U) t w (str (a ++ b)) := by
 intro c n d pos after g ha
 have h1 : ¬ ((((⟨a.toArray⟩ : ByteArray).size + (⟨b.toArray⟩ : ByteArray).size : Nat) : Int) > IntKind.i64.max) := by
  have := of_decide_eq_true hf
  rw [str_size, str_size]
  have e : IntKind.i64.max = 9223372036854775807 := by decide
  rw [e]
  omega
 simp only [execOp, ha.look hx, ha.look hy, str, Sem.run_bind, run_eqGuard_string, Result.andThen_ok, binOp, Op.stringOp, h1, if_false, Sem.run_pure]
 congr 3
theorem ev_seq (hx : look l x = some (str a)) (hy : look l y = some (str b)) : Ev P l (.binOp .eql T x y U) t w (.bool (a == b)) := by
 intro c n d pos after g ha
 simp [execOp, ha.look hx, ha.look hy, str, run_eqGuard_string, binOp_string_eql, ByteArray.toList_mk]
theorem ev_sne (hx : look l x = some (str a)) (hy : look l y = some (str b)) : Ev P l (.binOp .neq T x y U) t w (.bool (!(a == b))) := by
 intro c n d pos after g ha
 simp [execOp, ha.look hx, ha.look hy, str, run_eqGuard_string, binOp_string_neq, ByteArray.toList_mk]
theorem ev_slen (hT : P.underlying T = some .string) (hx : look l x = some (str a)) : Ev P l (.call { callee := .builtin .len, args := #[x], argTypes := #[T] }) t w (.int .i64 (a.length : Int)) := by
 intro c n d pos after g ha
 have h := run_len_string (P := P) w T t ⟨a.toArray⟩ hT
 simp only [execOp, resolve, invoke, builtin, List.map_toArray, List.map_cons, List.map_nil, ha.look hx, str, Sem.run_bind, Sem.run_pure, Result.andThen_ok, h, goInt, str_size]
def inb (i n : Int) : Bool := decide (0 ≤ i) && decide (i < n)
theorem inb_iff {i n : Int} : inb i n = true ↔ 0 ≤ i ∧ i < n := by simp [inb]
def byteAt (a : Str) (i : Int) : Int := ((a[i.toNat]?).map (fun u : UInt8 => (u.toNat : Int))).getD 0
theorem ev_sindex {k : IntKind} {i : Int} (hT : P.underlying T = some .string) (hx : look l x = some (str a)) (hy : look l y = some (.int k i)) (hb : inb i a.length = true) :
  Ev P l (.index T x y) t w (.int .u8 (byteAt a i)) := by
 intro c n d pos after g ha
 have hi := inb_iff.1 hb
 have hlt : i.toNat < a.length := by omega
 have h2 : (⟨a.toArray⟩ : ByteArray)[i.toNat]? = some a[i.toNat] := by
  rw [ByteArray.getElem?_lt' _ _ (by rw [str_size]; exact hlt)]; rfl
 simp only [execOp, ha.look hx, ha.look hy, str, Instr.index, Sem.run_bind, asIntOf, Sem.run_pure, Result.andThen_ok, run_underlying hT, if_pos hi.1, h2, byteAt, List.getElem?_eq_getElem hlt, Option.map_some, Option.getD_some]
def cut {α : Type} (a : List α) (i j : Int) : List α := (a.drop i.toNat).take (j.toNat - i.toNat)
def inc (i j n : Int) : Bool := decide (0 ≤ i) && decide (i ≤ j) && decide (j ≤ n)
theorem inc_iff {i j n : Int} : inc i j n = true ↔ 0 ≤ i ∧ i ≤ j ∧ j ≤ n := by simp [inc, and_assoc]
theorem ev_sslice {k k' : IntKind} {i j : Int} {y z : Operand} (hT : P.underlying T = some .string) (hx : look l x = some (str a)) (hy : look l y = some (.int k i)) (hz : look l z = some (.int k' j)) (hb : inc i j a.length = true) :
  Ev P l (.slice T x (some y) (some z) none) t w (str (cut a i j)) := by
 intro c n d pos after g ha
 have hi := inc_iff.1 hb
 have h1 : 0 ≤ j ∧ j ≤ ((⟨a.toArray⟩ : ByteArray).size : Int) := by rw [str_size]; omega
 have h2 : 0 ≤ i ∧ i ≤ ((j.toNat : Nat) : Int) := by omega
 simp only [execOp, ha.look hx, ha.look hy, ha.look hz, str, Instr.sliceAt, Instr.slice, Sem.run_bind, run_underlying hT, Instr.sliceBounds, Instr.sliceBound, asIntOf, Sem.run_pure, Result.andThen_ok, Option.map_some, Option.map_none, if_pos h1, if_pos h2, Option.isSome_none, Bool.false_eq_true, if_false, cut, ByteArray.extract_mk]
end strings

theorem ev_extract {x : Operand} {vs : Array Value} {i : Nat} {v : Value} (hx : look l x = some (.tuple vs)) (hv : vs[i]? = some v) : Ev P l (.extract x i) t w v := by
 intro c n d pos after g ha
 simp [execOp, ha.look hx, Instr.extract, hv]
theorem parts_look {n : Nat} {c : Act} (ha : At n l c) {ps : Array (Nat × Operand)} {vs : Array (Nat × Value)} (hp : ps.toList.map (fun p => (look l p.2).map fun u => (p.1, u)) = vs.toList.map some) :
  (ps.map fun (x : Nat × Operand) => match x with | (i, y) => (i, c.eval y)) = vs := by
 have hm : ps.map (fun p => (p.1, c.eval p.2)) = vs := by
  apply Array.toList_inj.1
  simp only [Array.toList_map]
  generalize ps.toList = xs at hp
  generalize vs.toList = ys at hp ⊢
  induction xs generalizing ys with
  | nil => cases ys with | nil => rfl | cons _ _ => simp at hp
  | cons p xs ih =>
   cases ys with
   | nil => simp at hp
   | cons v ys =>
    simp only [List.map_cons, List.cons.injEq] at hp
    obtain ⟨h1, h2⟩ := hp
    obtain ⟨u, hu, rfl⟩ := Option.map_eq_some_iff.1 h1
    simp only [List.map_cons, ha.look hu]
    rw [ih ys h2]
 exact hm
theorem ev_build {T : TypeId} {ps : Array (Nat × Operand)} {vs : Array (Nat × Value)} {v : Value} (hp : ps.toList.map (fun p => (look l p.2).map fun u => (p.1, u)) = vs.toList.map some)
  (h : ∀ w, (Instr.build T vs).run P w = .ok v w) : Ev P l (.build T ps) t w v := by
 intro c n d pos after g ha
 have hm' := parts_look ha hp
 simp only [execOp, hm', Sem.run_bind, h, Result.andThen_ok, Sem.run_pure]
theorem ev_nilCheck {x : Operand} {p : Addr} (hx : look l x = some (.pointer (some p))) : Ev P l (.nilCheck x) t w (.pointer (some p)) := by
 intro c n d pos after g ha
 simp [execOp, ha.look hx]
theorem ev_peq {x y : Operand} {p : Option Addr} {T U : TypeId} (hT : P.underlying T = some (.pointer (P.pointee T))) (hx : look l x = some (.pointer p)) (hy : look l y = some (.pointer none)) :
  Ev P l (.binOp .eql T x y U) t w (.bool p.isNone) := by
 intro c n d pos after g ha
 have h := run_eql_pointer_nil (P := P) w T p hT
 have hg : (eqGuard .eql T x y (.pointer p) (.pointer none)).run P w = .ok () w := rfl
 simp only [execOp, ha.look hx, ha.look hy, Sem.run_bind, hg, Result.andThen_ok, h, Sem.run_pure]
theorem ev_pne {x y : Operand} {p : Option Addr} {T U : TypeId} (hT : P.underlying T = some (.pointer (P.pointee T))) (hx : look l x = some (.pointer p)) (hy : look l y = some (.pointer none)) :
  Ev P l (.binOp .neq T x y U) t w (.bool (!p.isNone)) := by
 intro c n d pos after g ha
 have h := run_neq_pointer_nil (P := P) w T p hT
 have hg : (eqGuard .neq T x y (.pointer p) (.pointer none)).run P w = .ok () w := rfl
 simp only [execOp, ha.look hx, ha.look hy, Sem.run_bind, hg, Result.andThen_ok, h, Sem.run_pure]
end

def chk {α : Type} (p : Bool) (k : Option α) : Option α := if p then k else none
theorem chk_some {α : Type} {p : Bool} {k : Option α} {r : α} (h : chk p k = some r) : p = true ∧ k = some r := by
 cases p with
 | true => exact ⟨rfl, h⟩
 | false => cases h
theorem bind_some' {α β : Type} {x : Option α} {k : α → Option β} {r : β} (h : x.bind k = some r) : ∃ y, x = some y ∧ k y = some r := Option.bind_eq_some_iff.1 h
theorem ite_true' {α : Type} {p : Bool} {x y : Option α} {r : α} (h : (if p then x else y) = some r) (hp : p = true) : x = some r := by rw [if_pos hp] at h; exact h
theorem ite_false' {α : Type} {p : Bool} {x y : Option α} {r : α} (h : (if p then x else y) = some r) (hp : p = false) : y = some r := by
 rw [if_neg (by rw [hp]; exact Bool.false_ne_true)] at h; exact h
def fuel : Nat := 18446744073709551616
end Go.KW
