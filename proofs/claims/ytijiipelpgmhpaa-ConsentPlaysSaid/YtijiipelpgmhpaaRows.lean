/-
  No cell of these rows narrows 'for every input' (looked for: loops, veiled, ifaces, maps, wideKeys, modest, calm, conditions, laid).
  DERIVED. THE GIVEN ROWS OF THIS SEAT. 5 by the template 'for every input the law returns true; each argument reads behind the call as it read before'; 0 by the template 'total and deterministic' (their statements: YtijiipelpgmhpaaTotals.lean).
  GIVEN WITH THE SEED: the statements are not yours to turn. If you find one false, say at which input.
  Laid BY PROGRAM, IN A SANDBOX (cutbox-rows.mjs): the forced cells as the released guide's own fill.sh prints them over the translation 78a490da3c737497… (all of the seat's roots in one cut). By AI agents, Wed Nov 11 2026. No macro, syntax, notation, axiom, sorry.
-/
import Derived.Test.YtijiipelpgmhpaaChecked
import GoSem.Claim
import GoSem.ClaimJoined
import GoSem.ClaimMapViews
import Derived.JoinedTies
import Derived.KernelRfl
namespace Go.Proofs.Ytijiipelpgmhpaa
/- THE CELL 'sum', in the pinned program and in every row, IS THE sha256 OF THE DUMP (.gsa) THAT YtijiipelpgmhpaaProg.lean LOADS. Nothing in Lean hashes anything: it is a label: what it is worth is what the hold of that sum in a sandbox is worth. -/
noncomputable def Try.pinned : Pinned := { name := "ytijiipelpgmhpaa", sum := "78a490da3c73749741530b184fbf491fb864f50e9ba5250f40cdd9f636e4ea20", checked := Try.checked }
namespace Rows
def none {H : Type} : Left H := { results := [], args := [] }

/-- 'identitylaw32.ConsentPlays': WHATEVER THE INPUT: true; the input reads as it did. -/
def consentPlaysSpec : ChangeSpec := { name := "consentPlays", fn := fun _ => fun
  | [d1, d2] => { results := [.lit (.bool true)], args := [d1, d2] }
  | _ => none }
def consentPlaysRow : OpenClaim := { program := "ytijiipelpgmhpaa", sum := "78a490da3c73749741530b184fbf491fb864f50e9ba5250f40cdd9f636e4ea20", func := "identity/identitylaw32.ConsentPlays", spec := "consentPlays", inPlace := ["internal/bytealg.IndexByteString", "internal/bytealg.IndexString"], unfollowed := true, recurses := true, named := ["internal/bytealg.MaxLen"], plainKeys := false, apart := false }
def ConsentPlaysSaid : Prop := consentPlaysRow.holds Try.pinned (OpenSpec.ofChange consentPlaysSpec)

/-- ITS FALSE NEIGHBOUR: 'it returns false'. Refute it at one input. -/
def consentPlaysWrong : ChangeSpec := { name := "consentPlays", fn := fun _ => fun
  | [d1, d2] => { results := [.lit (.bool false)], args := [d1, d2] }
  | _ => none }
def ConsentPlaysWrongFalsely : Prop := consentPlaysRow.holds Try.pinned (OpenSpec.ofChange consentPlaysWrong)

/-- 'identitylaw32.ConsentLimits': WHATEVER THE INPUT: true; the input reads as it did. -/
def consentLimitsSpec : ChangeSpec := { name := "consentLimits", fn := fun _ => fun
  | [d1, d2] => { results := [.lit (.bool true)], args := [d1, d2] }
  | _ => none }
def consentLimitsRow : OpenClaim := { program := "ytijiipelpgmhpaa", sum := "78a490da3c73749741530b184fbf491fb864f50e9ba5250f40cdd9f636e4ea20", func := "identity/identitylaw32.ConsentLimits", spec := "consentLimits", inPlace := ["internal/bytealg.IndexByteString", "internal/bytealg.IndexString"], unfollowed := true, recurses := true, named := ["internal/bytealg.MaxLen"], plainKeys := false, apart := false }
def ConsentLimitsSaid : Prop := consentLimitsRow.holds Try.pinned (OpenSpec.ofChange consentLimitsSpec)

/-- ITS FALSE NEIGHBOUR: 'it returns false'. Refute it at one input. -/
def consentLimitsWrong : ChangeSpec := { name := "consentLimits", fn := fun _ => fun
  | [d1, d2] => { results := [.lit (.bool false)], args := [d1, d2] }
  | _ => none }
def ConsentLimitsWrongFalsely : Prop := consentLimitsRow.holds Try.pinned (OpenSpec.ofChange consentLimitsWrong)

/-- 'identitylaw32.ConsentOnly': WHATEVER THE INPUT: true; the input reads as it did. -/
def consentOnlySpec : ChangeSpec := { name := "consentOnly", fn := fun _ => fun
  | [d1, d2, d3, d4] => { results := [.lit (.bool true)], args := [d1, d2, d3, d4] }
  | _ => none }
def consentOnlyRow : OpenClaim := { program := "ytijiipelpgmhpaa", sum := "78a490da3c73749741530b184fbf491fb864f50e9ba5250f40cdd9f636e4ea20", func := "identity/identitylaw32.ConsentOnly", spec := "consentOnly", inPlace := ["internal/bytealg.IndexByteString", "internal/bytealg.IndexString"], unfollowed := true, recurses := true, named := ["internal/bytealg.MaxLen"], plainKeys := false, apart := false }
def ConsentOnlySaid : Prop := consentOnlyRow.holds Try.pinned (OpenSpec.ofChange consentOnlySpec)

/-- ITS FALSE NEIGHBOUR: 'it returns false'. Refute it at one input. -/
def consentOnlyWrong : ChangeSpec := { name := "consentOnly", fn := fun _ => fun
  | [d1, d2, d3, d4] => { results := [.lit (.bool false)], args := [d1, d2, d3, d4] }
  | _ => none }
def ConsentOnlyWrongFalsely : Prop := consentOnlyRow.holds Try.pinned (OpenSpec.ofChange consentOnlyWrong)

/-- 'identitylaw32.ConsentGranted': WHATEVER THE INPUT: true; the input reads as it did. -/
def consentGrantedSpec : ChangeSpec := { name := "consentGranted", fn := fun _ => fun
  | [d1, d2, d3] => { results := [.lit (.bool true)], args := [d1, d2, d3] }
  | _ => none }
def consentGrantedRow : OpenClaim := { program := "ytijiipelpgmhpaa", sum := "78a490da3c73749741530b184fbf491fb864f50e9ba5250f40cdd9f636e4ea20", func := "identity/identitylaw32.ConsentGranted", spec := "consentGranted", inPlace := ["internal/bytealg.IndexByteString", "internal/bytealg.IndexString"], unfollowed := true, recurses := true, named := ["internal/bytealg.MaxLen"], plainKeys := false, apart := false }
def ConsentGrantedSaid : Prop := consentGrantedRow.holds Try.pinned (OpenSpec.ofChange consentGrantedSpec)

/-- ITS FALSE NEIGHBOUR: 'it returns false'. Refute it at one input. -/
def consentGrantedWrong : ChangeSpec := { name := "consentGranted", fn := fun _ => fun
  | [d1, d2, d3] => { results := [.lit (.bool false)], args := [d1, d2, d3] }
  | _ => none }
def ConsentGrantedWrongFalsely : Prop := consentGrantedRow.holds Try.pinned (OpenSpec.ofChange consentGrantedWrong)

/-- 'identitylaw32.ConsentApart': WHATEVER THE INPUT: true; the input reads as it did. -/
def consentApartSpec : ChangeSpec := { name := "consentApart", fn := fun _ => fun
  | [d1, d2, d3, d4] => { results := [.lit (.bool true)], args := [d1, d2, d3, d4] }
  | _ => none }
def consentApartRow : OpenClaim := { program := "ytijiipelpgmhpaa", sum := "78a490da3c73749741530b184fbf491fb864f50e9ba5250f40cdd9f636e4ea20", func := "identity/identitylaw32.ConsentApart", spec := "consentApart", inPlace := ["internal/bytealg.IndexByteString", "internal/bytealg.IndexString"], unfollowed := true, recurses := true, named := ["internal/bytealg.MaxLen"], plainKeys := false, apart := false }
def ConsentApartSaid : Prop := consentApartRow.holds Try.pinned (OpenSpec.ofChange consentApartSpec)

/-- ITS FALSE NEIGHBOUR: 'it returns false'. Refute it at one input. -/
def consentApartWrong : ChangeSpec := { name := "consentApart", fn := fun _ => fun
  | [d1, d2, d3, d4] => { results := [.lit (.bool false)], args := [d1, d2, d3, d4] }
  | _ => none }
def ConsentApartWrongFalsely : Prop := consentApartRow.holds Try.pinned (OpenSpec.ofChange consentApartWrong)

/- THE SECOND FORM. 'bulk': how many values and letters a reading holds, each counted each time it is reached (what is shared counts as often as it is met; a slice's spare places count too). A statement '..UptoSaid' is the law's where the arguments, and the package variables that the reading takes, are together of bulk at most 1048576: NARROWER than '..Said'. Prove '..Said' where nothing that the law and all that it calls make is longer than what came in: it says more and counts as full. Else prove '..UptoSaid'. A law counts once. -/
mutual
def uptoBulk {H : Type} : DataW H → Nat
  | .lit (.string bytes) => bytes.length + 1
  | .lit _ => 1
  | .nil => 1
  | .ptr d => uptoBulk d + 1
  | .slice elems spare => uptoBulkAll elems + uptoBulkAll spare + 1
  | .agg parts => uptoBulkAll parts + 1
  | .iface _ d => uptoBulk d + 1
  | .map entries => uptoBulkEntries entries + 1
  | .held _ => 1
def uptoBulkAll {H : Type} : List (DataW H) → Nat
  | [] => 0
  | d :: r => uptoBulk d + uptoBulkAll r
def uptoBulkEntries {H : Type} : List (Lit × DataW H) → Nat
  | [] => 0
  | x :: r => uptoBulkEntry x + uptoBulkEntries r
def uptoBulkEntry {H : Type} : Lit × DataW H → Nat
  | (.string bytes, d) => bytes.length + uptoBulk d + 1
  | (_, d) => uptoBulk d + 1
 end
def uptoSmall : (H : Type) → List (DataW H) → Bool := fun _ ds => decide (uptoBulkAll ds ≤ 1048576)
def OpenSpec.upto (s : _root_.Go.ChangeSpec) : _root_.Go.OpenSpec := { _root_.Go.OpenSpec.ofChange s with cond := some uptoSmall }

/-- 'identitylaw32.ConsentPlays', WHERE WHAT IT READS IS OF BULK AT MOST 1048576: true; the input reads as it did. -/
def consentPlaysUptoRow : OpenClaim := { program := "ytijiipelpgmhpaa", sum := "78a490da3c73749741530b184fbf491fb864f50e9ba5250f40cdd9f636e4ea20", func := "identity/identitylaw32.ConsentPlays", spec := "consentPlays", inPlace := ["internal/bytealg.IndexByteString", "internal/bytealg.IndexString"], unfollowed := true, recurses := true, named := ["internal/bytealg.MaxLen"], plainKeys := false, apart := false, narrowed := true }
def ConsentPlaysUptoSaid : Prop := consentPlaysUptoRow.holds Try.pinned (OpenSpec.upto consentPlaysSpec)

/-- 'identitylaw32.ConsentLimits', WHERE WHAT IT READS IS OF BULK AT MOST 1048576: true; the input reads as it did. -/
def consentLimitsUptoRow : OpenClaim := { program := "ytijiipelpgmhpaa", sum := "78a490da3c73749741530b184fbf491fb864f50e9ba5250f40cdd9f636e4ea20", func := "identity/identitylaw32.ConsentLimits", spec := "consentLimits", inPlace := ["internal/bytealg.IndexByteString", "internal/bytealg.IndexString"], unfollowed := true, recurses := true, named := ["internal/bytealg.MaxLen"], plainKeys := false, apart := false, narrowed := true }
def ConsentLimitsUptoSaid : Prop := consentLimitsUptoRow.holds Try.pinned (OpenSpec.upto consentLimitsSpec)

/-- 'identitylaw32.ConsentOnly', WHERE WHAT IT READS IS OF BULK AT MOST 1048576: true; the input reads as it did. -/
def consentOnlyUptoRow : OpenClaim := { program := "ytijiipelpgmhpaa", sum := "78a490da3c73749741530b184fbf491fb864f50e9ba5250f40cdd9f636e4ea20", func := "identity/identitylaw32.ConsentOnly", spec := "consentOnly", inPlace := ["internal/bytealg.IndexByteString", "internal/bytealg.IndexString"], unfollowed := true, recurses := true, named := ["internal/bytealg.MaxLen"], plainKeys := false, apart := false, narrowed := true }
def ConsentOnlyUptoSaid : Prop := consentOnlyUptoRow.holds Try.pinned (OpenSpec.upto consentOnlySpec)

/-- 'identitylaw32.ConsentGranted', WHERE WHAT IT READS IS OF BULK AT MOST 1048576: true; the input reads as it did. -/
def consentGrantedUptoRow : OpenClaim := { program := "ytijiipelpgmhpaa", sum := "78a490da3c73749741530b184fbf491fb864f50e9ba5250f40cdd9f636e4ea20", func := "identity/identitylaw32.ConsentGranted", spec := "consentGranted", inPlace := ["internal/bytealg.IndexByteString", "internal/bytealg.IndexString"], unfollowed := true, recurses := true, named := ["internal/bytealg.MaxLen"], plainKeys := false, apart := false, narrowed := true }
def ConsentGrantedUptoSaid : Prop := consentGrantedUptoRow.holds Try.pinned (OpenSpec.upto consentGrantedSpec)

/-- 'identitylaw32.ConsentApart', WHERE WHAT IT READS IS OF BULK AT MOST 1048576: true; the input reads as it did. -/
def consentApartUptoRow : OpenClaim := { program := "ytijiipelpgmhpaa", sum := "78a490da3c73749741530b184fbf491fb864f50e9ba5250f40cdd9f636e4ea20", func := "identity/identitylaw32.ConsentApart", spec := "consentApart", inPlace := ["internal/bytealg.IndexByteString", "internal/bytealg.IndexString"], unfollowed := true, recurses := true, named := ["internal/bytealg.MaxLen"], plainKeys := false, apart := false, narrowed := true }
def ConsentApartUptoSaid : Prop := consentApartUptoRow.holds Try.pinned (OpenSpec.upto consentApartSpec)

end Rows
end Go.Proofs.Ytijiipelpgmhpaa
