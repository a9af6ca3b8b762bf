/-
  NARROWER THAN 'FOR EVERY INPUT', by the rows' own cells (each row's printed sentence says how): ClientChecks: laid · ClientScopes: laid · ClientPlays: laid · ClientRegisters: laid · ClientApart: laid · ClientNil: laid · ClientSecrets: laid.
  DERIVED. THE GIVEN ROWS OF THIS SEAT. 7 by the template 'for every input the law returns true; each argument reads behind the call as it read before'; 0 by the template 'total and deterministic' (their statements: YtmdbnoopcdpomaaGreatDoorTotals.lean).
  GIVEN WITH THE SEED: the statements are not yours to turn. If you find one false, say at which input.
  Laid BY PROGRAM, IN A SANDBOX (cutbox-rows.mjs): the forced cells as the released guide's own fill.sh prints them over the translation af78be5d31438ff4… (all of the seat's roots in one cut). By AI agents, Wed Nov 11 2026. No macro, syntax, notation, axiom, sorry.
-/
import Derived.Test.YtmdbnoopcdpomaaGreatDoorChecked
import GoSem.PinnedTables
import GoSem.Claim
import GoSem.ClaimJoined
import GoSem.ClaimMapViews
import Derived.JoinedTies
import Derived.KernelRfl
namespace Go.Proofs.YtmdbnoopcdpomaaGreatDoor
/- THE CELL 'sum', in the pinned program and in every row, IS THE sha256 OF THE DUMP (.gsa) THAT YtmdbnoopcdpomaaGreatDoorProg.lean LOADS. Nothing in Lean hashes anything: it is a label: what it is worth is what the hold of that sum in a sandbox is worth. -/
noncomputable def Tryz.pinned : Pinned := { name := "ytmdbnoopcdpomaagreatdoor", sum := "af78be5d31438ff42cfd98fac6345e0f4af0e377a49155c7846053c1682e98c5", checked := Tryz.checked }
namespace Rows
def none {H : Type} : Left H := { results := [], args := [] }

/- WHAT THE LISTED PACKAGE-LEVEL VARIABLES READ AS WHEN THE CALL BEGINS. Each datum BY PROGRAM (the guide's laid-datum.mjs) off the statement by which the dump's own 'gosem.cut.vars' lays the variable. In a bare row this is a premise. The card (YtmdbnoopcdpomaaGreatDoorCards.lean) ties it to the program's text. -/
def laid_unicode_utf8_acceptRanges {H : Type} : DataW H := .agg [.agg [.lit (.int .u8 128), .lit (.int .u8 191)], .agg [.lit (.int .u8 160), .lit (.int .u8 191)], .agg [.lit (.int .u8 128), .lit (.int .u8 159)], .agg [.lit (.int .u8 144), .lit (.int .u8 191)], .agg [.lit (.int .u8 128), .lit (.int .u8 143)], .agg [.lit (.int .u8 0), .lit (.int .u8 0)], .agg [.lit (.int .u8 0), .lit (.int .u8 0)], .agg [.lit (.int .u8 0), .lit (.int .u8 0)], .agg [.lit (.int .u8 0), .lit (.int .u8 0)], .agg [.lit (.int .u8 0), .lit (.int .u8 0)], .agg [.lit (.int .u8 0), .lit (.int .u8 0)], .agg [.lit (.int .u8 0), .lit (.int .u8 0)], .agg [.lit (.int .u8 0), .lit (.int .u8 0)], .agg [.lit (.int .u8 0), .lit (.int .u8 0)], .agg [.lit (.int .u8 0), .lit (.int .u8 0)], .agg [.lit (.int .u8 0), .lit (.int .u8 0)]]
def laid_identity_digest_digits {H : Type} : DataW H := .agg [.lit (.int .u8 48), .lit (.int .u8 49), .lit (.int .u8 50), .lit (.int .u8 51), .lit (.int .u8 52), .lit (.int .u8 53), .lit (.int .u8 54), .lit (.int .u8 55), .lit (.int .u8 56), .lit (.int .u8 57), .lit (.int .u8 97), .lit (.int .u8 98), .lit (.int .u8 99), .lit (.int .u8 100), .lit (.int .u8 101), .lit (.int .u8 102)]
/-- One of Go's own tables, pinned by name: the form's constant. -/
def laid_unicode_utf8_first : DataW Unit := Go.Pinned.utf8First

/-- 'identitylaw36.ClientChecks': WHATEVER THE INPUT: true; the input reads as it did. -/
def clientChecksSpec : ChangeSpec := { name := "clientChecks", fn := fun _ => fun
  | [d] => { results := [.lit (.bool true)], args := [d] }
  | _ => none }
def clientChecksRow : OpenClaim := { program := "ytmdbnoopcdpomaagreatdoor", sum := "af78be5d31438ff42cfd98fac6345e0f4af0e377a49155c7846053c1682e98c5", func := "identity/identitylaw36.ClientChecks", spec := "clientChecks", inPlace := ["internal/bytealg.IndexByteString", "internal/bytealg.IndexString"], unfollowed := true, recurses := true, named := ["identity/digest.digits", "unicode/utf8.first", "unicode/utf8.acceptRanges", "internal/bytealg.MaxLen"], apart := false, laid := [("unicode/utf8.acceptRanges", laid_unicode_utf8_acceptRanges), ("identity/digest.digits", laid_identity_digest_digits), ("unicode/utf8.first", laid_unicode_utf8_first)] }
def ClientChecksSaid : Prop := clientChecksRow.holds Tryz.pinned (OpenSpec.ofChange clientChecksSpec)

/-- ITS FALSE NEIGHBOUR: 'it returns false'. Refute it at one input. -/
def clientChecksWrong : ChangeSpec := { name := "clientChecks", fn := fun _ => fun
  | [d] => { results := [.lit (.bool false)], args := [d] }
  | _ => none }
def ClientChecksWrongFalsely : Prop := clientChecksRow.holds Tryz.pinned (OpenSpec.ofChange clientChecksWrong)

/-- 'identitylaw36.ClientScopes': WHATEVER THE INPUT: true; the input reads as it did. -/
def clientScopesSpec : ChangeSpec := { name := "clientScopes", fn := fun _ => fun
  | [d1, d2] => { results := [.lit (.bool true)], args := [d1, d2] }
  | _ => none }
def clientScopesRow : OpenClaim := { program := "ytmdbnoopcdpomaagreatdoor", sum := "af78be5d31438ff42cfd98fac6345e0f4af0e377a49155c7846053c1682e98c5", func := "identity/identitylaw36.ClientScopes", spec := "clientScopes", inPlace := ["internal/bytealg.IndexByteString", "internal/bytealg.IndexString"], unfollowed := true, recurses := true, named := ["identity/digest.digits", "unicode/utf8.first", "unicode/utf8.acceptRanges", "internal/bytealg.MaxLen"], apart := false, laid := [("unicode/utf8.acceptRanges", laid_unicode_utf8_acceptRanges), ("identity/digest.digits", laid_identity_digest_digits), ("unicode/utf8.first", laid_unicode_utf8_first)] }
def ClientScopesSaid : Prop := clientScopesRow.holds Tryz.pinned (OpenSpec.ofChange clientScopesSpec)

/-- ITS FALSE NEIGHBOUR: 'it returns false'. Refute it at one input. -/
def clientScopesWrong : ChangeSpec := { name := "clientScopes", fn := fun _ => fun
  | [d1, d2] => { results := [.lit (.bool false)], args := [d1, d2] }
  | _ => none }
def ClientScopesWrongFalsely : Prop := clientScopesRow.holds Tryz.pinned (OpenSpec.ofChange clientScopesWrong)

/-- 'identitylaw36.ClientPlays': WHATEVER THE INPUT: true; the input reads as it did. -/
def clientPlaysSpec : ChangeSpec := { name := "clientPlays", fn := fun _ => fun
  | [d] => { results := [.lit (.bool true)], args := [d] }
  | _ => none }
def clientPlaysRow : OpenClaim := { program := "ytmdbnoopcdpomaagreatdoor", sum := "af78be5d31438ff42cfd98fac6345e0f4af0e377a49155c7846053c1682e98c5", func := "identity/identitylaw36.ClientPlays", spec := "clientPlays", inPlace := ["internal/bytealg.IndexByteString", "internal/bytealg.IndexString"], unfollowed := true, recurses := true, named := ["identity/digest.digits", "unicode/utf8.first", "unicode/utf8.acceptRanges", "internal/bytealg.MaxLen"], apart := false, laid := [("unicode/utf8.acceptRanges", laid_unicode_utf8_acceptRanges), ("identity/digest.digits", laid_identity_digest_digits), ("unicode/utf8.first", laid_unicode_utf8_first)] }
def ClientPlaysSaid : Prop := clientPlaysRow.holds Tryz.pinned (OpenSpec.ofChange clientPlaysSpec)

/-- ITS FALSE NEIGHBOUR: 'it returns false'. Refute it at one input. -/
def clientPlaysWrong : ChangeSpec := { name := "clientPlays", fn := fun _ => fun
  | [d] => { results := [.lit (.bool false)], args := [d] }
  | _ => none }
def ClientPlaysWrongFalsely : Prop := clientPlaysRow.holds Tryz.pinned (OpenSpec.ofChange clientPlaysWrong)

/-- 'identitylaw36.ClientRegisters': WHATEVER THE INPUT: true; the input reads as it did. -/
def clientRegistersSpec : ChangeSpec := { name := "clientRegisters", fn := fun _ => fun
  | [d1, d2, d3] => { results := [.lit (.bool true)], args := [d1, d2, d3] }
  | _ => none }
def clientRegistersRow : OpenClaim := { program := "ytmdbnoopcdpomaagreatdoor", sum := "af78be5d31438ff42cfd98fac6345e0f4af0e377a49155c7846053c1682e98c5", func := "identity/identitylaw36.ClientRegisters", spec := "clientRegisters", inPlace := ["internal/bytealg.IndexByteString", "internal/bytealg.IndexString"], unfollowed := true, recurses := true, named := ["identity/digest.digits", "unicode/utf8.first", "unicode/utf8.acceptRanges", "internal/bytealg.MaxLen"], apart := false, laid := [("unicode/utf8.acceptRanges", laid_unicode_utf8_acceptRanges), ("identity/digest.digits", laid_identity_digest_digits), ("unicode/utf8.first", laid_unicode_utf8_first)] }
def ClientRegistersSaid : Prop := clientRegistersRow.holds Tryz.pinned (OpenSpec.ofChange clientRegistersSpec)

/-- ITS FALSE NEIGHBOUR: 'it returns false'. Refute it at one input. -/
def clientRegistersWrong : ChangeSpec := { name := "clientRegisters", fn := fun _ => fun
  | [d1, d2, d3] => { results := [.lit (.bool false)], args := [d1, d2, d3] }
  | _ => none }
def ClientRegistersWrongFalsely : Prop := clientRegistersRow.holds Tryz.pinned (OpenSpec.ofChange clientRegistersWrong)

/-- 'identitylaw36.ClientApart': WHATEVER THE INPUT: true; the input reads as it did. -/
def clientApartSpec : ChangeSpec := { name := "clientApart", fn := fun _ => fun
  | [d1, d2] => { results := [.lit (.bool true)], args := [d1, d2] }
  | _ => none }
def clientApartRow : OpenClaim := { program := "ytmdbnoopcdpomaagreatdoor", sum := "af78be5d31438ff42cfd98fac6345e0f4af0e377a49155c7846053c1682e98c5", func := "identity/identitylaw36.ClientApart", spec := "clientApart", inPlace := ["internal/bytealg.IndexByteString", "internal/bytealg.IndexString"], unfollowed := true, recurses := true, named := ["identity/digest.digits", "unicode/utf8.first", "unicode/utf8.acceptRanges", "internal/bytealg.MaxLen"], apart := false, laid := [("unicode/utf8.acceptRanges", laid_unicode_utf8_acceptRanges), ("identity/digest.digits", laid_identity_digest_digits), ("unicode/utf8.first", laid_unicode_utf8_first)] }
def ClientApartSaid : Prop := clientApartRow.holds Tryz.pinned (OpenSpec.ofChange clientApartSpec)

/-- ITS FALSE NEIGHBOUR: 'it returns false'. Refute it at one input. -/
def clientApartWrong : ChangeSpec := { name := "clientApart", fn := fun _ => fun
  | [d1, d2] => { results := [.lit (.bool false)], args := [d1, d2] }
  | _ => none }
def ClientApartWrongFalsely : Prop := clientApartRow.holds Tryz.pinned (OpenSpec.ofChange clientApartWrong)

/-- 'identitylaw36.ClientNil': WHATEVER THE INPUT: true; the input reads as it did. -/
def clientNilSpec : ChangeSpec := { name := "clientNil", fn := fun _ => fun
  | [d] => { results := [.lit (.bool true)], args := [d] }
  | _ => none }
def clientNilRow : OpenClaim := { program := "ytmdbnoopcdpomaagreatdoor", sum := "af78be5d31438ff42cfd98fac6345e0f4af0e377a49155c7846053c1682e98c5", func := "identity/identitylaw36.ClientNil", spec := "clientNil", inPlace := ["internal/bytealg.IndexByteString", "internal/bytealg.IndexString"], unfollowed := true, recurses := true, named := ["identity/digest.digits", "unicode/utf8.first", "unicode/utf8.acceptRanges", "internal/bytealg.MaxLen"], apart := false, laid := [("unicode/utf8.acceptRanges", laid_unicode_utf8_acceptRanges), ("identity/digest.digits", laid_identity_digest_digits), ("unicode/utf8.first", laid_unicode_utf8_first)] }
def ClientNilSaid : Prop := clientNilRow.holds Tryz.pinned (OpenSpec.ofChange clientNilSpec)

/-- ITS FALSE NEIGHBOUR: 'it returns false'. Refute it at one input. -/
def clientNilWrong : ChangeSpec := { name := "clientNil", fn := fun _ => fun
  | [d] => { results := [.lit (.bool false)], args := [d] }
  | _ => none }
def ClientNilWrongFalsely : Prop := clientNilRow.holds Tryz.pinned (OpenSpec.ofChange clientNilWrong)

/-- 'identitylaw36.ClientSecrets': WHATEVER THE INPUT: true; the input reads as it did. -/
def clientSecretsSpec : ChangeSpec := { name := "clientSecrets", fn := fun _ => fun
  | [d] => { results := [.lit (.bool true)], args := [d] }
  | _ => none }
def clientSecretsRow : OpenClaim := { program := "ytmdbnoopcdpomaagreatdoor", sum := "af78be5d31438ff42cfd98fac6345e0f4af0e377a49155c7846053c1682e98c5", func := "identity/identitylaw36.ClientSecrets", spec := "clientSecrets", inPlace := ["internal/bytealg.IndexByteString", "internal/bytealg.IndexString"], unfollowed := true, recurses := true, named := ["identity/digest.digits", "unicode/utf8.first", "unicode/utf8.acceptRanges", "internal/bytealg.MaxLen"], apart := false, laid := [("unicode/utf8.acceptRanges", laid_unicode_utf8_acceptRanges), ("identity/digest.digits", laid_identity_digest_digits), ("unicode/utf8.first", laid_unicode_utf8_first)] }
def ClientSecretsSaid : Prop := clientSecretsRow.holds Tryz.pinned (OpenSpec.ofChange clientSecretsSpec)

/-- ITS FALSE NEIGHBOUR: 'it returns false'. Refute it at one input. -/
def clientSecretsWrong : ChangeSpec := { name := "clientSecrets", fn := fun _ => fun
  | [d] => { results := [.lit (.bool false)], args := [d] }
  | _ => none }
def ClientSecretsWrongFalsely : Prop := clientSecretsRow.holds Tryz.pinned (OpenSpec.ofChange clientSecretsWrong)

/- THE SECOND FORM. 'bulk': how many values and letters a reading holds, each counted each time it is reached (what is shared counts as often as it is met; a slice's spare places count too). A statement '..UptoSaid' is the law's where the arguments, and the package variables that the reading takes, are together of bulk at most 1048576: NARROWER than '..Said'. Prove '..Said' where nothing that the law and all that it calls make is longer than what came in: it says more and counts as full. Else prove '..UptoSaid'. A law counts once. -/
mutual
def uptoBulk {H : Type} : DataW H → Nat
  | .lit (.string bytes) => bytes.length + 1
  | .lit _ => 1
  | .nil => 1
  | .ptr d => uptoBulk d + 1
  | .slice elems spare => uptoBulkAll elems + uptoBulkAll spare + 1
  | .agg parts => uptoBulkAll parts + 1
  | .iface _ d => uptoBulk d + 1
  | .map entries => uptoBulkEntries entries + 1
  | .held _ => 1
def uptoBulkAll {H : Type} : List (DataW H) → Nat
  | [] => 0
  | d :: r => uptoBulk d + uptoBulkAll r
def uptoBulkEntries {H : Type} : List (Lit × DataW H) → Nat
  | [] => 0
  | x :: r => uptoBulkEntry x + uptoBulkEntries r
def uptoBulkEntry {H : Type} : Lit × DataW H → Nat
  | (.string bytes, d) => bytes.length + uptoBulk d + 1
  | (_, d) => uptoBulk d + 1
 end
def uptoSmall : (H : Type) → List (DataW H) → Bool := fun _ ds => decide (uptoBulkAll ds ≤ 1048576)
def OpenSpec.upto (s : _root_.Go.ChangeSpec) : _root_.Go.OpenSpec := { _root_.Go.OpenSpec.ofChange s with cond := some uptoSmall }

/-- 'identitylaw36.ClientChecks', WHERE WHAT IT READS IS OF BULK AT MOST 1048576: true; the input reads as it did. -/
def clientChecksUptoRow : OpenClaim := { program := "ytmdbnoopcdpomaagreatdoor", sum := "af78be5d31438ff42cfd98fac6345e0f4af0e377a49155c7846053c1682e98c5", func := "identity/identitylaw36.ClientChecks", spec := "clientChecks", inPlace := ["internal/bytealg.IndexByteString", "internal/bytealg.IndexString"], unfollowed := true, recurses := true, named := ["identity/digest.digits", "unicode/utf8.first", "unicode/utf8.acceptRanges", "internal/bytealg.MaxLen"], apart := false, laid := [("unicode/utf8.acceptRanges", laid_unicode_utf8_acceptRanges), ("identity/digest.digits", laid_identity_digest_digits), ("unicode/utf8.first", laid_unicode_utf8_first)], narrowed := true }
def ClientChecksUptoSaid : Prop := clientChecksUptoRow.holds Tryz.pinned (OpenSpec.upto clientChecksSpec)

/-- 'identitylaw36.ClientScopes', WHERE WHAT IT READS IS OF BULK AT MOST 1048576: true; the input reads as it did. -/
def clientScopesUptoRow : OpenClaim := { program := "ytmdbnoopcdpomaagreatdoor", sum := "af78be5d31438ff42cfd98fac6345e0f4af0e377a49155c7846053c1682e98c5", func := "identity/identitylaw36.ClientScopes", spec := "clientScopes", inPlace := ["internal/bytealg.IndexByteString", "internal/bytealg.IndexString"], unfollowed := true, recurses := true, named := ["identity/digest.digits", "unicode/utf8.first", "unicode/utf8.acceptRanges", "internal/bytealg.MaxLen"], apart := false, laid := [("unicode/utf8.acceptRanges", laid_unicode_utf8_acceptRanges), ("identity/digest.digits", laid_identity_digest_digits), ("unicode/utf8.first", laid_unicode_utf8_first)], narrowed := true }
def ClientScopesUptoSaid : Prop := clientScopesUptoRow.holds Tryz.pinned (OpenSpec.upto clientScopesSpec)

/-- 'identitylaw36.ClientPlays', WHERE WHAT IT READS IS OF BULK AT MOST 1048576: true; the input reads as it did. -/
def clientPlaysUptoRow : OpenClaim := { program := "ytmdbnoopcdpomaagreatdoor", sum := "af78be5d31438ff42cfd98fac6345e0f4af0e377a49155c7846053c1682e98c5", func := "identity/identitylaw36.ClientPlays", spec := "clientPlays", inPlace := ["internal/bytealg.IndexByteString", "internal/bytealg.IndexString"], unfollowed := true, recurses := true, named := ["identity/digest.digits", "unicode/utf8.first", "unicode/utf8.acceptRanges", "internal/bytealg.MaxLen"], apart := false, laid := [("unicode/utf8.acceptRanges", laid_unicode_utf8_acceptRanges), ("identity/digest.digits", laid_identity_digest_digits), ("unicode/utf8.first", laid_unicode_utf8_first)], narrowed := true }
def ClientPlaysUptoSaid : Prop := clientPlaysUptoRow.holds Tryz.pinned (OpenSpec.upto clientPlaysSpec)

/-- 'identitylaw36.ClientRegisters', WHERE WHAT IT READS IS OF BULK AT MOST 1048576: true; the input reads as it did. -/
def clientRegistersUptoRow : OpenClaim := { program := "ytmdbnoopcdpomaagreatdoor", sum := "af78be5d31438ff42cfd98fac6345e0f4af0e377a49155c7846053c1682e98c5", func := "identity/identitylaw36.ClientRegisters", spec := "clientRegisters", inPlace := ["internal/bytealg.IndexByteString", "internal/bytealg.IndexString"], unfollowed := true, recurses := true, named := ["identity/digest.digits", "unicode/utf8.first", "unicode/utf8.acceptRanges", "internal/bytealg.MaxLen"], apart := false, laid := [("unicode/utf8.acceptRanges", laid_unicode_utf8_acceptRanges), ("identity/digest.digits", laid_identity_digest_digits), ("unicode/utf8.first", laid_unicode_utf8_first)], narrowed := true }
def ClientRegistersUptoSaid : Prop := clientRegistersUptoRow.holds Tryz.pinned (OpenSpec.upto clientRegistersSpec)

/-- 'identitylaw36.ClientApart', WHERE WHAT IT READS IS OF BULK AT MOST 1048576: true; the input reads as it did. -/
def clientApartUptoRow : OpenClaim := { program := "ytmdbnoopcdpomaagreatdoor", sum := "af78be5d31438ff42cfd98fac6345e0f4af0e377a49155c7846053c1682e98c5", func := "identity/identitylaw36.ClientApart", spec := "clientApart", inPlace := ["internal/bytealg.IndexByteString", "internal/bytealg.IndexString"], unfollowed := true, recurses := true, named := ["identity/digest.digits", "unicode/utf8.first", "unicode/utf8.acceptRanges", "internal/bytealg.MaxLen"], apart := false, laid := [("unicode/utf8.acceptRanges", laid_unicode_utf8_acceptRanges), ("identity/digest.digits", laid_identity_digest_digits), ("unicode/utf8.first", laid_unicode_utf8_first)], narrowed := true }
def ClientApartUptoSaid : Prop := clientApartUptoRow.holds Tryz.pinned (OpenSpec.upto clientApartSpec)

/-- 'identitylaw36.ClientNil', WHERE WHAT IT READS IS OF BULK AT MOST 1048576: true; the input reads as it did. -/
def clientNilUptoRow : OpenClaim := { program := "ytmdbnoopcdpomaagreatdoor", sum := "af78be5d31438ff42cfd98fac6345e0f4af0e377a49155c7846053c1682e98c5", func := "identity/identitylaw36.ClientNil", spec := "clientNil", inPlace := ["internal/bytealg.IndexByteString", "internal/bytealg.IndexString"], unfollowed := true, recurses := true, named := ["identity/digest.digits", "unicode/utf8.first", "unicode/utf8.acceptRanges", "internal/bytealg.MaxLen"], apart := false, laid := [("unicode/utf8.acceptRanges", laid_unicode_utf8_acceptRanges), ("identity/digest.digits", laid_identity_digest_digits), ("unicode/utf8.first", laid_unicode_utf8_first)], narrowed := true }
def ClientNilUptoSaid : Prop := clientNilUptoRow.holds Tryz.pinned (OpenSpec.upto clientNilSpec)

/-- 'identitylaw36.ClientSecrets', WHERE WHAT IT READS IS OF BULK AT MOST 1048576: true; the input reads as it did. -/
def clientSecretsUptoRow : OpenClaim := { program := "ytmdbnoopcdpomaagreatdoor", sum := "af78be5d31438ff42cfd98fac6345e0f4af0e377a49155c7846053c1682e98c5", func := "identity/identitylaw36.ClientSecrets", spec := "clientSecrets", inPlace := ["internal/bytealg.IndexByteString", "internal/bytealg.IndexString"], unfollowed := true, recurses := true, named := ["identity/digest.digits", "unicode/utf8.first", "unicode/utf8.acceptRanges", "internal/bytealg.MaxLen"], apart := false, laid := [("unicode/utf8.acceptRanges", laid_unicode_utf8_acceptRanges), ("identity/digest.digits", laid_identity_digest_digits), ("unicode/utf8.first", laid_unicode_utf8_first)], narrowed := true }
def ClientSecretsUptoSaid : Prop := clientSecretsUptoRow.holds Tryz.pinned (OpenSpec.upto clientSecretsSpec)

end Rows
end Go.Proofs.YtmdbnoopcdpomaaGreatDoor
