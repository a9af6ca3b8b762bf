/-
  No cell of these rows narrows 'for every input' (looked for: loops, veiled, ifaces, maps, wideKeys, modest, calm, conditions, laid).
  DERIVED. THE GIVEN ROWS OF THIS SEAT. 5 by the template 'for every input the law returns true; each argument reads behind the call as it read before'; 0 by the template 'total and deterministic' (their statements: YtibmfjehbmdbkaaTotals.lean).
  GIVEN WITH THE SEED: the statements are not yours to turn. If you find one false, say at which input.
  Laid BY PROGRAM, IN A SANDBOX (cutbox-rows.mjs): the forced cells as the released guide's own fill.sh prints them over the translation 89b517c025f79cc9… (all of the seat's roots in one cut). By AI agents, Wed Nov 11 2026. No macro, syntax, notation, axiom, sorry.
-/
import Derived.Test.YtibmfjehbmdbkaaChecked
import GoSem.Claim
import GoSem.ClaimJoined
import GoSem.ClaimMapViews
import Derived.JoinedTies
import Derived.KernelRfl
namespace Go.Proofs.Ytibmfjehbmdbkaa
/- THE CELL 'sum', in the pinned program and in every row, IS THE sha256 OF THE DUMP (.gsa) THAT YtibmfjehbmdbkaaProg.lean LOADS. Nothing in Lean hashes anything: it is a label: what it is worth is what the hold of that sum in a sandbox is worth. -/
noncomputable def Try.pinned : Pinned := { name := "ytibmfjehbmdbkaa", sum := "89b517c025f79cc9376dfe1e3c5419bcf83593badf86586ce3d570cbfd74f03b", checked := Try.checked }
namespace Rows
def none {H : Type} : Left H := { results := [], args := [] }

/-- 'identitylaw35.DelegatePlays': WHATEVER THE INPUT: true; the input reads as it did. -/
def delegatePlaysSpec : ChangeSpec := { name := "delegatePlays", fn := fun _ => fun
  | [d1, d2, d3, d4, d5] => { results := [.lit (.bool true)], args := [d1, d2, d3, d4, d5] }
  | _ => none }
def delegatePlaysRow : OpenClaim := { program := "ytibmfjehbmdbkaa", sum := "89b517c025f79cc9376dfe1e3c5419bcf83593badf86586ce3d570cbfd74f03b", func := "identity/identitylaw35.DelegatePlays", spec := "delegatePlays", inPlace := ["internal/bytealg.IndexByteString", "internal/bytealg.IndexString"], unfollowed := true, recurses := true, named := ["internal/bytealg.MaxLen"], plainKeys := false, apart := false }
def DelegatePlaysSaid : Prop := delegatePlaysRow.holds Try.pinned (OpenSpec.ofChange delegatePlaysSpec)

/-- ITS FALSE NEIGHBOUR: 'it returns false'. Refute it at one input. -/
def delegatePlaysWrong : ChangeSpec := { name := "delegatePlays", fn := fun _ => fun
  | [d1, d2, d3, d4, d5] => { results := [.lit (.bool false)], args := [d1, d2, d3, d4, d5] }
  | _ => none }
def DelegatePlaysWrongFalsely : Prop := delegatePlaysRow.holds Try.pinned (OpenSpec.ofChange delegatePlaysWrong)

/-- 'identitylaw35.DelegateLimits': WHATEVER THE INPUT: true; the input reads as it did. -/
def delegateLimitsSpec : ChangeSpec := { name := "delegateLimits", fn := fun _ => fun
  | [d] => { results := [.lit (.bool true)], args := [d] }
  | _ => none }
def delegateLimitsRow : OpenClaim := { program := "ytibmfjehbmdbkaa", sum := "89b517c025f79cc9376dfe1e3c5419bcf83593badf86586ce3d570cbfd74f03b", func := "identity/identitylaw35.DelegateLimits", spec := "delegateLimits", inPlace := ["internal/bytealg.IndexByteString", "internal/bytealg.IndexString"], unfollowed := true, recurses := true, named := ["internal/bytealg.MaxLen"], plainKeys := false, apart := false }
def DelegateLimitsSaid : Prop := delegateLimitsRow.holds Try.pinned (OpenSpec.ofChange delegateLimitsSpec)

/-- ITS FALSE NEIGHBOUR: 'it returns false'. Refute it at one input. -/
def delegateLimitsWrong : ChangeSpec := { name := "delegateLimits", fn := fun _ => fun
  | [d] => { results := [.lit (.bool false)], args := [d] }
  | _ => none }
def DelegateLimitsWrongFalsely : Prop := delegateLimitsRow.holds Try.pinned (OpenSpec.ofChange delegateLimitsWrong)

/-- 'identitylaw35.DelegateOnly': WHATEVER THE INPUT: true; the input reads as it did. -/
def delegateOnlySpec : ChangeSpec := { name := "delegateOnly", fn := fun _ => fun
  | [d1, d2, d3, d4, d5] => { results := [.lit (.bool true)], args := [d1, d2, d3, d4, d5] }
  | _ => none }
def delegateOnlyRow : OpenClaim := { program := "ytibmfjehbmdbkaa", sum := "89b517c025f79cc9376dfe1e3c5419bcf83593badf86586ce3d570cbfd74f03b", func := "identity/identitylaw35.DelegateOnly", spec := "delegateOnly", inPlace := ["internal/bytealg.IndexByteString", "internal/bytealg.IndexString"], unfollowed := true, recurses := true, named := ["internal/bytealg.MaxLen"], plainKeys := false, apart := false }
def DelegateOnlySaid : Prop := delegateOnlyRow.holds Try.pinned (OpenSpec.ofChange delegateOnlySpec)

/-- ITS FALSE NEIGHBOUR: 'it returns false'. Refute it at one input. -/
def delegateOnlyWrong : ChangeSpec := { name := "delegateOnly", fn := fun _ => fun
  | [d1, d2, d3, d4, d5] => { results := [.lit (.bool false)], args := [d1, d2, d3, d4, d5] }
  | _ => none }
def DelegateOnlyWrongFalsely : Prop := delegateOnlyRow.holds Try.pinned (OpenSpec.ofChange delegateOnlyWrong)

/-- 'identitylaw35.DelegateChains': WHATEVER THE INPUT: true; the input reads as it did. -/
def delegateChainsSpec : ChangeSpec := { name := "delegateChains", fn := fun _ => fun
  | [d1, d2, d3, d4] => { results := [.lit (.bool true)], args := [d1, d2, d3, d4] }
  | _ => none }
def delegateChainsRow : OpenClaim := { program := "ytibmfjehbmdbkaa", sum := "89b517c025f79cc9376dfe1e3c5419bcf83593badf86586ce3d570cbfd74f03b", func := "identity/identitylaw35.DelegateChains", spec := "delegateChains", inPlace := ["internal/bytealg.IndexByteString", "internal/bytealg.IndexString"], unfollowed := true, recurses := true, named := ["internal/bytealg.MaxLen"], plainKeys := false, apart := false }
def DelegateChainsSaid : Prop := delegateChainsRow.holds Try.pinned (OpenSpec.ofChange delegateChainsSpec)

/-- ITS FALSE NEIGHBOUR: 'it returns false'. Refute it at one input. -/
def delegateChainsWrong : ChangeSpec := { name := "delegateChains", fn := fun _ => fun
  | [d1, d2, d3, d4] => { results := [.lit (.bool false)], args := [d1, d2, d3, d4] }
  | _ => none }
def DelegateChainsWrongFalsely : Prop := delegateChainsRow.holds Try.pinned (OpenSpec.ofChange delegateChainsWrong)

/-- 'identitylaw35.DelegateDropped': WHATEVER THE INPUT: true; the input reads as it did. -/
def delegateDroppedSpec : ChangeSpec := { name := "delegateDropped", fn := fun _ => fun
  | [d1, d2, d3, d4] => { results := [.lit (.bool true)], args := [d1, d2, d3, d4] }
  | _ => none }
def delegateDroppedRow : OpenClaim := { program := "ytibmfjehbmdbkaa", sum := "89b517c025f79cc9376dfe1e3c5419bcf83593badf86586ce3d570cbfd74f03b", func := "identity/identitylaw35.DelegateDropped", spec := "delegateDropped", inPlace := ["internal/bytealg.IndexByteString", "internal/bytealg.IndexString"], unfollowed := true, recurses := true, named := ["internal/bytealg.MaxLen"], plainKeys := false, apart := false }
def DelegateDroppedSaid : Prop := delegateDroppedRow.holds Try.pinned (OpenSpec.ofChange delegateDroppedSpec)

/-- ITS FALSE NEIGHBOUR: 'it returns false'. Refute it at one input. -/
def delegateDroppedWrong : ChangeSpec := { name := "delegateDropped", fn := fun _ => fun
  | [d1, d2, d3, d4] => { results := [.lit (.bool false)], args := [d1, d2, d3, d4] }
  | _ => none }
def DelegateDroppedWrongFalsely : Prop := delegateDroppedRow.holds Try.pinned (OpenSpec.ofChange delegateDroppedWrong)

/- THE SECOND FORM. 'bulk': how many values and letters a reading holds, each counted each time it is reached (what is shared counts as often as it is met; a slice's spare places count too). A statement '..UptoSaid' is the law's where the arguments, and the package variables that the reading takes, are together of bulk at most 1048576: NARROWER than '..Said'. Prove '..Said' where nothing that the law and all that it calls make is longer than what came in: it says more and counts as full. Else prove '..UptoSaid'. A law counts once. -/
mutual
def uptoBulk {H : Type} : DataW H → Nat
  | .lit (.string bytes) => bytes.length + 1
  | .lit _ => 1
  | .nil => 1
  | .ptr d => uptoBulk d + 1
  | .slice elems spare => uptoBulkAll elems + uptoBulkAll spare + 1
  | .agg parts => uptoBulkAll parts + 1
  | .iface _ d => uptoBulk d + 1
  | .map entries => uptoBulkEntries entries + 1
  | .held _ => 1
def uptoBulkAll {H : Type} : List (DataW H) → Nat
  | [] => 0
  | d :: r => uptoBulk d + uptoBulkAll r
def uptoBulkEntries {H : Type} : List (Lit × DataW H) → Nat
  | [] => 0
  | x :: r => uptoBulkEntry x + uptoBulkEntries r
def uptoBulkEntry {H : Type} : Lit × DataW H → Nat
  | (.string bytes, d) => bytes.length + uptoBulk d + 1
  | (_, d) => uptoBulk d + 1
 end
def uptoSmall : (H : Type) → List (DataW H) → Bool := fun _ ds => decide (uptoBulkAll ds ≤ 1048576)
def OpenSpec.upto (s : _root_.Go.ChangeSpec) : _root_.Go.OpenSpec := { _root_.Go.OpenSpec.ofChange s with cond := some uptoSmall }

/-- 'identitylaw35.DelegatePlays', WHERE WHAT IT READS IS OF BULK AT MOST 1048576: true; the input reads as it did. -/
def delegatePlaysUptoRow : OpenClaim := { program := "ytibmfjehbmdbkaa", sum := "89b517c025f79cc9376dfe1e3c5419bcf83593badf86586ce3d570cbfd74f03b", func := "identity/identitylaw35.DelegatePlays", spec := "delegatePlays", inPlace := ["internal/bytealg.IndexByteString", "internal/bytealg.IndexString"], unfollowed := true, recurses := true, named := ["internal/bytealg.MaxLen"], plainKeys := false, apart := false, narrowed := true }
def DelegatePlaysUptoSaid : Prop := delegatePlaysUptoRow.holds Try.pinned (OpenSpec.upto delegatePlaysSpec)

/-- 'identitylaw35.DelegateLimits', WHERE WHAT IT READS IS OF BULK AT MOST 1048576: true; the input reads as it did. -/
def delegateLimitsUptoRow : OpenClaim := { program := "ytibmfjehbmdbkaa", sum := "89b517c025f79cc9376dfe1e3c5419bcf83593badf86586ce3d570cbfd74f03b", func := "identity/identitylaw35.DelegateLimits", spec := "delegateLimits", inPlace := ["internal/bytealg.IndexByteString", "internal/bytealg.IndexString"], unfollowed := true, recurses := true, named := ["internal/bytealg.MaxLen"], plainKeys := false, apart := false, narrowed := true }
def DelegateLimitsUptoSaid : Prop := delegateLimitsUptoRow.holds Try.pinned (OpenSpec.upto delegateLimitsSpec)

/-- 'identitylaw35.DelegateOnly', WHERE WHAT IT READS IS OF BULK AT MOST 1048576: true; the input reads as it did. -/
def delegateOnlyUptoRow : OpenClaim := { program := "ytibmfjehbmdbkaa", sum := "89b517c025f79cc9376dfe1e3c5419bcf83593badf86586ce3d570cbfd74f03b", func := "identity/identitylaw35.DelegateOnly", spec := "delegateOnly", inPlace := ["internal/bytealg.IndexByteString", "internal/bytealg.IndexString"], unfollowed := true, recurses := true, named := ["internal/bytealg.MaxLen"], plainKeys := false, apart := false, narrowed := true }
def DelegateOnlyUptoSaid : Prop := delegateOnlyUptoRow.holds Try.pinned (OpenSpec.upto delegateOnlySpec)

/-- 'identitylaw35.DelegateChains', WHERE WHAT IT READS IS OF BULK AT MOST 1048576: true; the input reads as it did. -/
def delegateChainsUptoRow : OpenClaim := { program := "ytibmfjehbmdbkaa", sum := "89b517c025f79cc9376dfe1e3c5419bcf83593badf86586ce3d570cbfd74f03b", func := "identity/identitylaw35.DelegateChains", spec := "delegateChains", inPlace := ["internal/bytealg.IndexByteString", "internal/bytealg.IndexString"], unfollowed := true, recurses := true, named := ["internal/bytealg.MaxLen"], plainKeys := false, apart := false, narrowed := true }
def DelegateChainsUptoSaid : Prop := delegateChainsUptoRow.holds Try.pinned (OpenSpec.upto delegateChainsSpec)

/-- 'identitylaw35.DelegateDropped', WHERE WHAT IT READS IS OF BULK AT MOST 1048576: true; the input reads as it did. -/
def delegateDroppedUptoRow : OpenClaim := { program := "ytibmfjehbmdbkaa", sum := "89b517c025f79cc9376dfe1e3c5419bcf83593badf86586ce3d570cbfd74f03b", func := "identity/identitylaw35.DelegateDropped", spec := "delegateDropped", inPlace := ["internal/bytealg.IndexByteString", "internal/bytealg.IndexString"], unfollowed := true, recurses := true, named := ["internal/bytealg.MaxLen"], plainKeys := false, apart := false, narrowed := true }
def DelegateDroppedUptoSaid : Prop := delegateDroppedUptoRow.holds Try.pinned (OpenSpec.upto delegateDroppedSpec)

end Rows
end Go.Proofs.Ytibmfjehbmdbkaa
