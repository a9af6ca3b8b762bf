/-
  NARROWER THAN 'FOR EVERY INPUT', by the rows' own cells (each row's printed sentence says how): SecretMakes: laid · SecretQuality: laid · SecretOnly: laid · SecretLocks: laid · SecretMany: laid · SecretLocked: laid.
  DERIVED. THE GIVEN ROWS OF THIS SEAT. 6 by the template 'for every input the law returns true; each argument reads behind the call as it read before'; 0 by the template 'total and deterministic' (their statements: YteifnoehmfjogaaDoorTotals.lean).
  GIVEN WITH THE SEED: the statements are not yours to turn. If you find one false, say at which input.
  Laid BY PROGRAM, IN A SANDBOX (cutbox-rows.mjs): the forced cells as the released guide's own fill.sh prints them over the translation 3f9cc1707c73a3a6… (all of the seat's roots in one cut). By AI agents, Wed Nov 11 2026. No macro, syntax, notation, axiom, sorry.
-/
import Derived.Test.YteifnoehmfjogaaDoorChecked
import GoSem.Claim
import GoSem.ClaimJoined
import GoSem.ClaimMapViews
import Derived.JoinedTies
import Derived.KernelRfl
namespace Go.Proofs.YteifnoehmfjogaaDoor
/- THE CELL 'sum', in the pinned program and in every row, IS THE sha256 OF THE DUMP (.gsa) THAT YteifnoehmfjogaaDoorProg.lean LOADS. Nothing in Lean hashes anything: it is a label: what it is worth is what the hold of that sum in a sandbox is worth. -/
noncomputable def Tryd.pinned : Pinned := { name := "yteifnoehmfjogaadoor", sum := "3f9cc1707c73a3a66e687edccbc35053b61622e1247da76706f4ed9cb7cc35e7", checked := Tryd.checked }
namespace Rows
def none {H : Type} : Left H := { results := [], args := [] }

/- WHAT THE LISTED PACKAGE-LEVEL VARIABLES READ AS WHEN THE CALL BEGINS. Each datum BY PROGRAM (the guide's laid-datum.mjs) off the statement by which the dump's own 'gosem.cut.vars' lays the variable. In a bare row this is a premise. The card (YteifnoehmfjogaaDoorCards.lean) ties it to the program's text. -/
def laid_identity_digest_digits {H : Type} : DataW H := .agg [.lit (.int .u8 48), .lit (.int .u8 49), .lit (.int .u8 50), .lit (.int .u8 51), .lit (.int .u8 52), .lit (.int .u8 53), .lit (.int .u8 54), .lit (.int .u8 55), .lit (.int .u8 56), .lit (.int .u8 57), .lit (.int .u8 97), .lit (.int .u8 98), .lit (.int .u8 99), .lit (.int .u8 100), .lit (.int .u8 101), .lit (.int .u8 102)]

/-- 'identitylaw22.SecretMakes': WHATEVER THE INPUT: true; the input reads as it did. -/
def secretMakesSpec : ChangeSpec := { name := "secretMakes", fn := fun _ => fun
  | [d1, d2, d3, d4] => { results := [.lit (.bool true)], args := [d1, d2, d3, d4] }
  | _ => none }
def secretMakesRow : OpenClaim := { program := "yteifnoehmfjogaadoor", sum := "3f9cc1707c73a3a66e687edccbc35053b61622e1247da76706f4ed9cb7cc35e7", func := "identity/identitylaw22.SecretMakes", spec := "secretMakes", inPlace := ["internal/bytealg.IndexByteString", "internal/bytealg.IndexString"], unfollowed := true, recurses := true, named := ["identity/digest.digits", "internal/bytealg.MaxLen"], apart := false, laid := [("identity/digest.digits", laid_identity_digest_digits)] }
def SecretMakesSaid : Prop := secretMakesRow.holds Tryd.pinned (OpenSpec.ofChange secretMakesSpec)

/-- ITS FALSE NEIGHBOUR: 'it returns false'. Refute it at one input. -/
def secretMakesWrong : ChangeSpec := { name := "secretMakes", fn := fun _ => fun
  | [d1, d2, d3, d4] => { results := [.lit (.bool false)], args := [d1, d2, d3, d4] }
  | _ => none }
def SecretMakesWrongFalsely : Prop := secretMakesRow.holds Tryd.pinned (OpenSpec.ofChange secretMakesWrong)

/-- 'identitylaw22.SecretQuality': WHATEVER THE INPUT: true; the input reads as it did. -/
def secretQualitySpec : ChangeSpec := { name := "secretQuality", fn := fun _ => fun
  | [d1, d2] => { results := [.lit (.bool true)], args := [d1, d2] }
  | _ => none }
def secretQualityRow : OpenClaim := { program := "yteifnoehmfjogaadoor", sum := "3f9cc1707c73a3a66e687edccbc35053b61622e1247da76706f4ed9cb7cc35e7", func := "identity/identitylaw22.SecretQuality", spec := "secretQuality", inPlace := ["internal/bytealg.IndexByteString", "internal/bytealg.IndexString"], unfollowed := true, recurses := true, named := ["identity/digest.digits", "internal/bytealg.MaxLen"], apart := false, laid := [("identity/digest.digits", laid_identity_digest_digits)] }
def SecretQualitySaid : Prop := secretQualityRow.holds Tryd.pinned (OpenSpec.ofChange secretQualitySpec)

/-- ITS FALSE NEIGHBOUR: 'it returns false'. Refute it at one input. -/
def secretQualityWrong : ChangeSpec := { name := "secretQuality", fn := fun _ => fun
  | [d1, d2] => { results := [.lit (.bool false)], args := [d1, d2] }
  | _ => none }
def SecretQualityWrongFalsely : Prop := secretQualityRow.holds Tryd.pinned (OpenSpec.ofChange secretQualityWrong)

/-- 'identitylaw22.SecretOnly': WHATEVER THE INPUT: true; the input reads as it did. -/
def secretOnlySpec : ChangeSpec := { name := "secretOnly", fn := fun _ => fun
  | [d1, d2, d3, d4] => { results := [.lit (.bool true)], args := [d1, d2, d3, d4] }
  | _ => none }
def secretOnlyRow : OpenClaim := { program := "yteifnoehmfjogaadoor", sum := "3f9cc1707c73a3a66e687edccbc35053b61622e1247da76706f4ed9cb7cc35e7", func := "identity/identitylaw22.SecretOnly", spec := "secretOnly", inPlace := ["internal/bytealg.IndexByteString", "internal/bytealg.IndexString"], unfollowed := true, recurses := true, named := ["identity/digest.digits", "internal/bytealg.MaxLen"], apart := false, laid := [("identity/digest.digits", laid_identity_digest_digits)] }
def SecretOnlySaid : Prop := secretOnlyRow.holds Tryd.pinned (OpenSpec.ofChange secretOnlySpec)

/-- ITS FALSE NEIGHBOUR: 'it returns false'. Refute it at one input. -/
def secretOnlyWrong : ChangeSpec := { name := "secretOnly", fn := fun _ => fun
  | [d1, d2, d3, d4] => { results := [.lit (.bool false)], args := [d1, d2, d3, d4] }
  | _ => none }
def SecretOnlyWrongFalsely : Prop := secretOnlyRow.holds Tryd.pinned (OpenSpec.ofChange secretOnlyWrong)

/-- 'identitylaw22.SecretLocks': WHATEVER THE INPUT: true; the input reads as it did. -/
def secretLocksSpec : ChangeSpec := { name := "secretLocks", fn := fun _ => fun
  | [d1, d2, d3, d4] => { results := [.lit (.bool true)], args := [d1, d2, d3, d4] }
  | _ => none }
def secretLocksRow : OpenClaim := { program := "yteifnoehmfjogaadoor", sum := "3f9cc1707c73a3a66e687edccbc35053b61622e1247da76706f4ed9cb7cc35e7", func := "identity/identitylaw22.SecretLocks", spec := "secretLocks", inPlace := ["internal/bytealg.IndexByteString", "internal/bytealg.IndexString"], unfollowed := true, recurses := true, named := ["identity/digest.digits", "internal/bytealg.MaxLen"], apart := false, laid := [("identity/digest.digits", laid_identity_digest_digits)] }
def SecretLocksSaid : Prop := secretLocksRow.holds Tryd.pinned (OpenSpec.ofChange secretLocksSpec)

/-- ITS FALSE NEIGHBOUR: 'it returns false'. Refute it at one input. -/
def secretLocksWrong : ChangeSpec := { name := "secretLocks", fn := fun _ => fun
  | [d1, d2, d3, d4] => { results := [.lit (.bool false)], args := [d1, d2, d3, d4] }
  | _ => none }
def SecretLocksWrongFalsely : Prop := secretLocksRow.holds Tryd.pinned (OpenSpec.ofChange secretLocksWrong)

/-- 'identitylaw22.SecretMany': WHATEVER THE INPUT: true; the input reads as it did. -/
def secretManySpec : ChangeSpec := { name := "secretMany", fn := fun _ => fun
  | [d1, d2] => { results := [.lit (.bool true)], args := [d1, d2] }
  | _ => none }
def secretManyRow : OpenClaim := { program := "yteifnoehmfjogaadoor", sum := "3f9cc1707c73a3a66e687edccbc35053b61622e1247da76706f4ed9cb7cc35e7", func := "identity/identitylaw22.SecretMany", spec := "secretMany", inPlace := ["internal/bytealg.IndexByteString", "internal/bytealg.IndexString"], unfollowed := true, recurses := true, named := ["identity/digest.digits", "internal/bytealg.MaxLen"], apart := false, laid := [("identity/digest.digits", laid_identity_digest_digits)] }
def SecretManySaid : Prop := secretManyRow.holds Tryd.pinned (OpenSpec.ofChange secretManySpec)

/-- ITS FALSE NEIGHBOUR: 'it returns false'. Refute it at one input. -/
def secretManyWrong : ChangeSpec := { name := "secretMany", fn := fun _ => fun
  | [d1, d2] => { results := [.lit (.bool false)], args := [d1, d2] }
  | _ => none }
def SecretManyWrongFalsely : Prop := secretManyRow.holds Tryd.pinned (OpenSpec.ofChange secretManyWrong)

/-- 'identitylaw22.SecretLocked': WHATEVER THE INPUT: true; the input reads as it did. -/
def secretLockedSpec : ChangeSpec := { name := "secretLocked", fn := fun _ => fun
  | [d1, d2, d3, d4, d5] => { results := [.lit (.bool true)], args := [d1, d2, d3, d4, d5] }
  | _ => none }
def secretLockedRow : OpenClaim := { program := "yteifnoehmfjogaadoor", sum := "3f9cc1707c73a3a66e687edccbc35053b61622e1247da76706f4ed9cb7cc35e7", func := "identity/identitylaw22.SecretLocked", spec := "secretLocked", inPlace := ["internal/bytealg.IndexByteString", "internal/bytealg.IndexString"], unfollowed := true, recurses := true, named := ["identity/digest.digits", "internal/bytealg.MaxLen"], apart := false, laid := [("identity/digest.digits", laid_identity_digest_digits)] }
def SecretLockedSaid : Prop := secretLockedRow.holds Tryd.pinned (OpenSpec.ofChange secretLockedSpec)

/-- ITS FALSE NEIGHBOUR: 'it returns false'. Refute it at one input. -/
def secretLockedWrong : ChangeSpec := { name := "secretLocked", fn := fun _ => fun
  | [d1, d2, d3, d4, d5] => { results := [.lit (.bool false)], args := [d1, d2, d3, d4, d5] }
  | _ => none }
def SecretLockedWrongFalsely : Prop := secretLockedRow.holds Tryd.pinned (OpenSpec.ofChange secretLockedWrong)

/- THE SECOND FORM. 'bulk': how many values and letters a reading holds, each counted each time it is reached (what is shared counts as often as it is met; a slice's spare places count too). A statement '..UptoSaid' is the law's where the arguments, and the package variables that the reading takes, are together of bulk at most 1048576: NARROWER than '..Said'. Prove '..Said' where nothing that the law and all that it calls make is longer than what came in: it says more and counts as full. Else prove '..UptoSaid'. A law counts once. -/
mutual
def uptoBulk {H : Type} : DataW H → Nat
  | .lit (.string bytes) => bytes.length + 1
  | .lit _ => 1
  | .nil => 1
  | .ptr d => uptoBulk d + 1
  | .slice elems spare => uptoBulkAll elems + uptoBulkAll spare + 1
  | .agg parts => uptoBulkAll parts + 1
  | .iface _ d => uptoBulk d + 1
  | .map entries => uptoBulkEntries entries + 1
  | .held _ => 1
def uptoBulkAll {H : Type} : List (DataW H) → Nat
  | [] => 0
  | d :: r => uptoBulk d + uptoBulkAll r
def uptoBulkEntries {H : Type} : List (Lit × DataW H) → Nat
  | [] => 0
  | x :: r => uptoBulkEntry x + uptoBulkEntries r
def uptoBulkEntry {H : Type} : Lit × DataW H → Nat
  | (.string bytes, d) => bytes.length + uptoBulk d + 1
  | (_, d) => uptoBulk d + 1
 end
def uptoSmall : (H : Type) → List (DataW H) → Bool := fun _ ds => decide (uptoBulkAll ds ≤ 1048576)
def OpenSpec.upto (s : _root_.Go.ChangeSpec) : _root_.Go.OpenSpec := { _root_.Go.OpenSpec.ofChange s with cond := some uptoSmall }

/-- 'identitylaw22.SecretMakes', WHERE WHAT IT READS IS OF BULK AT MOST 1048576: true; the input reads as it did. -/
def secretMakesUptoRow : OpenClaim := { program := "yteifnoehmfjogaadoor", sum := "3f9cc1707c73a3a66e687edccbc35053b61622e1247da76706f4ed9cb7cc35e7", func := "identity/identitylaw22.SecretMakes", spec := "secretMakes", inPlace := ["internal/bytealg.IndexByteString", "internal/bytealg.IndexString"], unfollowed := true, recurses := true, named := ["identity/digest.digits", "internal/bytealg.MaxLen"], apart := false, laid := [("identity/digest.digits", laid_identity_digest_digits)], narrowed := true }
def SecretMakesUptoSaid : Prop := secretMakesUptoRow.holds Tryd.pinned (OpenSpec.upto secretMakesSpec)

/-- 'identitylaw22.SecretQuality', WHERE WHAT IT READS IS OF BULK AT MOST 1048576: true; the input reads as it did. -/
def secretQualityUptoRow : OpenClaim := { program := "yteifnoehmfjogaadoor", sum := "3f9cc1707c73a3a66e687edccbc35053b61622e1247da76706f4ed9cb7cc35e7", func := "identity/identitylaw22.SecretQuality", spec := "secretQuality", inPlace := ["internal/bytealg.IndexByteString", "internal/bytealg.IndexString"], unfollowed := true, recurses := true, named := ["identity/digest.digits", "internal/bytealg.MaxLen"], apart := false, laid := [("identity/digest.digits", laid_identity_digest_digits)], narrowed := true }
def SecretQualityUptoSaid : Prop := secretQualityUptoRow.holds Tryd.pinned (OpenSpec.upto secretQualitySpec)

/-- 'identitylaw22.SecretOnly', WHERE WHAT IT READS IS OF BULK AT MOST 1048576: true; the input reads as it did. -/
def secretOnlyUptoRow : OpenClaim := { program := "yteifnoehmfjogaadoor", sum := "3f9cc1707c73a3a66e687edccbc35053b61622e1247da76706f4ed9cb7cc35e7", func := "identity/identitylaw22.SecretOnly", spec := "secretOnly", inPlace := ["internal/bytealg.IndexByteString", "internal/bytealg.IndexString"], unfollowed := true, recurses := true, named := ["identity/digest.digits", "internal/bytealg.MaxLen"], apart := false, laid := [("identity/digest.digits", laid_identity_digest_digits)], narrowed := true }
def SecretOnlyUptoSaid : Prop := secretOnlyUptoRow.holds Tryd.pinned (OpenSpec.upto secretOnlySpec)

/-- 'identitylaw22.SecretLocks', WHERE WHAT IT READS IS OF BULK AT MOST 1048576: true; the input reads as it did. -/
def secretLocksUptoRow : OpenClaim := { program := "yteifnoehmfjogaadoor", sum := "3f9cc1707c73a3a66e687edccbc35053b61622e1247da76706f4ed9cb7cc35e7", func := "identity/identitylaw22.SecretLocks", spec := "secretLocks", inPlace := ["internal/bytealg.IndexByteString", "internal/bytealg.IndexString"], unfollowed := true, recurses := true, named := ["identity/digest.digits", "internal/bytealg.MaxLen"], apart := false, laid := [("identity/digest.digits", laid_identity_digest_digits)], narrowed := true }
def SecretLocksUptoSaid : Prop := secretLocksUptoRow.holds Tryd.pinned (OpenSpec.upto secretLocksSpec)

/-- 'identitylaw22.SecretMany', WHERE WHAT IT READS IS OF BULK AT MOST 1048576: true; the input reads as it did. -/
def secretManyUptoRow : OpenClaim := { program := "yteifnoehmfjogaadoor", sum := "3f9cc1707c73a3a66e687edccbc35053b61622e1247da76706f4ed9cb7cc35e7", func := "identity/identitylaw22.SecretMany", spec := "secretMany", inPlace := ["internal/bytealg.IndexByteString", "internal/bytealg.IndexString"], unfollowed := true, recurses := true, named := ["identity/digest.digits", "internal/bytealg.MaxLen"], apart := false, laid := [("identity/digest.digits", laid_identity_digest_digits)], narrowed := true }
def SecretManyUptoSaid : Prop := secretManyUptoRow.holds Tryd.pinned (OpenSpec.upto secretManySpec)

/-- 'identitylaw22.SecretLocked', WHERE WHAT IT READS IS OF BULK AT MOST 1048576: true; the input reads as it did. -/
def secretLockedUptoRow : OpenClaim := { program := "yteifnoehmfjogaadoor", sum := "3f9cc1707c73a3a66e687edccbc35053b61622e1247da76706f4ed9cb7cc35e7", func := "identity/identitylaw22.SecretLocked", spec := "secretLocked", inPlace := ["internal/bytealg.IndexByteString", "internal/bytealg.IndexString"], unfollowed := true, recurses := true, named := ["identity/digest.digits", "internal/bytealg.MaxLen"], apart := false, laid := [("identity/digest.digits", laid_identity_digest_digits)], narrowed := true }
def SecretLockedUptoSaid : Prop := secretLockedUptoRow.holds Tryd.pinned (OpenSpec.upto secretLockedSpec)

end Rows
end Go.Proofs.YteifnoehmfjogaaDoor
