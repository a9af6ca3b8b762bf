/-
  NARROWER THAN 'FOR EVERY INPUT', by the rows' own cells (each row's printed sentence says how): LoginSingle: laid · LoginStrength: laid · LoginSilence: laid · LoginPlays: laid · LoginExpires: laid · LoginNil: laid.
  DERIVED. THE GIVEN ROWS OF THIS SEAT. 6 by the template 'for every input the law returns true; each argument reads behind the call as it read before'; 0 by the template 'total and deterministic' (their statements: YtkhodjenbganfaaGreatDoorTotals.lean).
  GIVEN WITH THE SEED: the statements are not yours to turn. If you find one false, say at which input.
  Laid BY PROGRAM, IN A SANDBOX (cutbox-rows.mjs): the forced cells as the released guide's own fill.sh prints them over the translation d4588be3d2a48577… (all of the seat's roots in one cut). By AI agents, Wed Nov 11 2026. No macro, syntax, notation, axiom, sorry.
-/
import Derived.Test.YtkhodjenbganfaaGreatDoorChecked
import GoSem.PinnedTables
import GoSem.Claim
import GoSem.ClaimJoined
import GoSem.ClaimMapViews
import Derived.JoinedTies
import Derived.KernelRfl
namespace Go.Proofs.YtkhodjenbganfaaGreatDoor
/- THE CELL 'sum', in the pinned program and in every row, IS THE sha256 OF THE DUMP (.gsa) THAT YtkhodjenbganfaaGreatDoorProg.lean LOADS. Nothing in Lean hashes anything: it is a label: what it is worth is what the hold of that sum in a sandbox is worth. -/
noncomputable def Tryz.pinned : Pinned := { name := "ytkhodjenbganfaagreatdoor", sum := "d4588be3d2a48577ca3fe439e7428f1c292dcb1e214b29fce8a756ff13409ab4", checked := Tryz.checked }
namespace Rows
def none {H : Type} : Left H := { results := [], args := [] }

/- WHAT THE LISTED PACKAGE-LEVEL VARIABLES READ AS WHEN THE CALL BEGINS. Each datum BY PROGRAM (the guide's laid-datum.mjs) off the statement by which the dump's own 'gosem.cut.vars' lays the variable. In a bare row this is a premise. The card (YtkhodjenbganfaaGreatDoorCards.lean) ties it to the program's text. -/
def laid_math_bits_deBruijn32tab {H : Type} : DataW H := .agg [.lit (.int .u8 0), .lit (.int .u8 1), .lit (.int .u8 28), .lit (.int .u8 2), .lit (.int .u8 29), .lit (.int .u8 14), .lit (.int .u8 24), .lit (.int .u8 3), .lit (.int .u8 30), .lit (.int .u8 22), .lit (.int .u8 20), .lit (.int .u8 15), .lit (.int .u8 25), .lit (.int .u8 17), .lit (.int .u8 4), .lit (.int .u8 8), .lit (.int .u8 31), .lit (.int .u8 27), .lit (.int .u8 13), .lit (.int .u8 23), .lit (.int .u8 21), .lit (.int .u8 19), .lit (.int .u8 16), .lit (.int .u8 7), .lit (.int .u8 26), .lit (.int .u8 12), .lit (.int .u8 18), .lit (.int .u8 6), .lit (.int .u8 11), .lit (.int .u8 5), .lit (.int .u8 10), .lit (.int .u8 9)]
def laid_math_bits_deBruijn64tab {H : Type} : DataW H := .agg [.lit (.int .u8 0), .lit (.int .u8 1), .lit (.int .u8 56), .lit (.int .u8 2), .lit (.int .u8 57), .lit (.int .u8 49), .lit (.int .u8 28), .lit (.int .u8 3), .lit (.int .u8 61), .lit (.int .u8 58), .lit (.int .u8 42), .lit (.int .u8 50), .lit (.int .u8 38), .lit (.int .u8 29), .lit (.int .u8 17), .lit (.int .u8 4), .lit (.int .u8 62), .lit (.int .u8 47), .lit (.int .u8 59), .lit (.int .u8 36), .lit (.int .u8 45), .lit (.int .u8 43), .lit (.int .u8 51), .lit (.int .u8 22), .lit (.int .u8 53), .lit (.int .u8 39), .lit (.int .u8 33), .lit (.int .u8 30), .lit (.int .u8 24), .lit (.int .u8 18), .lit (.int .u8 12), .lit (.int .u8 5), .lit (.int .u8 63), .lit (.int .u8 55), .lit (.int .u8 48), .lit (.int .u8 27), .lit (.int .u8 60), .lit (.int .u8 41), .lit (.int .u8 37), .lit (.int .u8 16), .lit (.int .u8 46), .lit (.int .u8 35), .lit (.int .u8 44), .lit (.int .u8 21), .lit (.int .u8 52), .lit (.int .u8 32), .lit (.int .u8 23), .lit (.int .u8 11), .lit (.int .u8 54), .lit (.int .u8 26), .lit (.int .u8 40), .lit (.int .u8 15), .lit (.int .u8 34), .lit (.int .u8 20), .lit (.int .u8 31), .lit (.int .u8 10), .lit (.int .u8 25), .lit (.int .u8 14), .lit (.int .u8 19), .lit (.int .u8 9), .lit (.int .u8 13), .lit (.int .u8 8), .lit (.int .u8 7), .lit (.int .u8 6)]
def laid_internal_strconv_uint64pow10 {H : Type} : DataW H := .agg [.lit (.int .u64 1), .lit (.int .u64 10), .lit (.int .u64 100), .lit (.int .u64 1000), .lit (.int .u64 10000), .lit (.int .u64 100000), .lit (.int .u64 1000000), .lit (.int .u64 10000000), .lit (.int .u64 100000000), .lit (.int .u64 1000000000), .lit (.int .u64 10000000000), .lit (.int .u64 100000000000), .lit (.int .u64 1000000000000), .lit (.int .u64 10000000000000), .lit (.int .u64 100000000000000), .lit (.int .u64 1000000000000000), .lit (.int .u64 10000000000000000), .lit (.int .u64 100000000000000000), .lit (.int .u64 1000000000000000000), .lit (.int .u64 10000000000000000000)]
def laid_unicode_utf8_acceptRanges {H : Type} : DataW H := .agg [.agg [.lit (.int .u8 128), .lit (.int .u8 191)], .agg [.lit (.int .u8 160), .lit (.int .u8 191)], .agg [.lit (.int .u8 128), .lit (.int .u8 159)], .agg [.lit (.int .u8 144), .lit (.int .u8 191)], .agg [.lit (.int .u8 128), .lit (.int .u8 143)], .agg [.lit (.int .u8 0), .lit (.int .u8 0)], .agg [.lit (.int .u8 0), .lit (.int .u8 0)], .agg [.lit (.int .u8 0), .lit (.int .u8 0)], .agg [.lit (.int .u8 0), .lit (.int .u8 0)], .agg [.lit (.int .u8 0), .lit (.int .u8 0)], .agg [.lit (.int .u8 0), .lit (.int .u8 0)], .agg [.lit (.int .u8 0), .lit (.int .u8 0)], .agg [.lit (.int .u8 0), .lit (.int .u8 0)], .agg [.lit (.int .u8 0), .lit (.int .u8 0)], .agg [.lit (.int .u8 0), .lit (.int .u8 0)], .agg [.lit (.int .u8 0), .lit (.int .u8 0)]]
def laid_identity_digest_digits {H : Type} : DataW H := .agg [.lit (.int .u8 48), .lit (.int .u8 49), .lit (.int .u8 50), .lit (.int .u8 51), .lit (.int .u8 52), .lit (.int .u8 53), .lit (.int .u8 54), .lit (.int .u8 55), .lit (.int .u8 56), .lit (.int .u8 57), .lit (.int .u8 97), .lit (.int .u8 98), .lit (.int .u8 99), .lit (.int .u8 100), .lit (.int .u8 101), .lit (.int .u8 102)]
/-- One of Go's own tables, pinned by name: the form's constant. -/
def laid_unicode_utf8_first : DataW Unit := Go.Pinned.utf8First

/-- 'identitylaw39.LoginSingle': WHATEVER THE INPUT: true; the input reads as it did. -/
def loginSingleSpec : ChangeSpec := { name := "loginSingle", fn := fun _ => fun
  | [d1, d2] => { results := [.lit (.bool true)], args := [d1, d2] }
  | _ => none }
def loginSingleRow : OpenClaim := { program := "ytkhodjenbganfaagreatdoor", sum := "d4588be3d2a48577ca3fe439e7428f1c292dcb1e214b29fce8a756ff13409ab4", func := "identity/identitylaw39.LoginSingle", spec := "loginSingle", inPlace := ["internal/bytealg.IndexByteString", "internal/bytealg.IndexString"], unfollowed := true, recurses := true, named := ["identity/digest.digits", "unicode/utf8.first", "unicode/utf8.acceptRanges", "internal/strconv.uint64pow10", "math/bits.deBruijn32tab", "math/bits.deBruijn64tab", "internal/bytealg.MaxLen"], apart := false, laid := [("math/bits.deBruijn32tab", laid_math_bits_deBruijn32tab), ("math/bits.deBruijn64tab", laid_math_bits_deBruijn64tab), ("internal/strconv.uint64pow10", laid_internal_strconv_uint64pow10), ("unicode/utf8.acceptRanges", laid_unicode_utf8_acceptRanges), ("identity/digest.digits", laid_identity_digest_digits), ("unicode/utf8.first", laid_unicode_utf8_first)] }
def LoginSingleSaid : Prop := loginSingleRow.holds Tryz.pinned (OpenSpec.ofChange loginSingleSpec)

/-- ITS FALSE NEIGHBOUR: 'it returns false'. Refute it at one input. -/
def loginSingleWrong : ChangeSpec := { name := "loginSingle", fn := fun _ => fun
  | [d1, d2] => { results := [.lit (.bool false)], args := [d1, d2] }
  | _ => none }
def LoginSingleWrongFalsely : Prop := loginSingleRow.holds Tryz.pinned (OpenSpec.ofChange loginSingleWrong)

/-- 'identitylaw39.LoginStrength': WHATEVER THE INPUT: true; the input reads as it did. -/
def loginStrengthSpec : ChangeSpec := { name := "loginStrength", fn := fun _ => fun
  | [d1, d2] => { results := [.lit (.bool true)], args := [d1, d2] }
  | _ => none }
def loginStrengthRow : OpenClaim := { program := "ytkhodjenbganfaagreatdoor", sum := "d4588be3d2a48577ca3fe439e7428f1c292dcb1e214b29fce8a756ff13409ab4", func := "identity/identitylaw39.LoginStrength", spec := "loginStrength", inPlace := ["internal/bytealg.IndexByteString", "internal/bytealg.IndexString"], unfollowed := true, recurses := true, named := ["identity/digest.digits", "unicode/utf8.first", "unicode/utf8.acceptRanges", "internal/strconv.uint64pow10", "math/bits.deBruijn32tab", "math/bits.deBruijn64tab", "internal/bytealg.MaxLen"], apart := false, laid := [("math/bits.deBruijn32tab", laid_math_bits_deBruijn32tab), ("math/bits.deBruijn64tab", laid_math_bits_deBruijn64tab), ("internal/strconv.uint64pow10", laid_internal_strconv_uint64pow10), ("unicode/utf8.acceptRanges", laid_unicode_utf8_acceptRanges), ("identity/digest.digits", laid_identity_digest_digits), ("unicode/utf8.first", laid_unicode_utf8_first)] }
def LoginStrengthSaid : Prop := loginStrengthRow.holds Tryz.pinned (OpenSpec.ofChange loginStrengthSpec)

/-- ITS FALSE NEIGHBOUR: 'it returns false'. Refute it at one input. -/
def loginStrengthWrong : ChangeSpec := { name := "loginStrength", fn := fun _ => fun
  | [d1, d2] => { results := [.lit (.bool false)], args := [d1, d2] }
  | _ => none }
def LoginStrengthWrongFalsely : Prop := loginStrengthRow.holds Tryz.pinned (OpenSpec.ofChange loginStrengthWrong)

/-- 'identitylaw39.LoginSilence': WHATEVER THE INPUT: true; the input reads as it did. -/
def loginSilenceSpec : ChangeSpec := { name := "loginSilence", fn := fun _ => fun
  | [d1, d2, d3] => { results := [.lit (.bool true)], args := [d1, d2, d3] }
  | _ => none }
def loginSilenceRow : OpenClaim := { program := "ytkhodjenbganfaagreatdoor", sum := "d4588be3d2a48577ca3fe439e7428f1c292dcb1e214b29fce8a756ff13409ab4", func := "identity/identitylaw39.LoginSilence", spec := "loginSilence", inPlace := ["internal/bytealg.IndexByteString", "internal/bytealg.IndexString"], unfollowed := true, recurses := true, named := ["identity/digest.digits", "unicode/utf8.first", "unicode/utf8.acceptRanges", "internal/strconv.uint64pow10", "math/bits.deBruijn32tab", "math/bits.deBruijn64tab", "internal/bytealg.MaxLen"], apart := false, laid := [("math/bits.deBruijn32tab", laid_math_bits_deBruijn32tab), ("math/bits.deBruijn64tab", laid_math_bits_deBruijn64tab), ("internal/strconv.uint64pow10", laid_internal_strconv_uint64pow10), ("unicode/utf8.acceptRanges", laid_unicode_utf8_acceptRanges), ("identity/digest.digits", laid_identity_digest_digits), ("unicode/utf8.first", laid_unicode_utf8_first)] }
def LoginSilenceSaid : Prop := loginSilenceRow.holds Tryz.pinned (OpenSpec.ofChange loginSilenceSpec)

/-- ITS FALSE NEIGHBOUR: 'it returns false'. Refute it at one input. -/
def loginSilenceWrong : ChangeSpec := { name := "loginSilence", fn := fun _ => fun
  | [d1, d2, d3] => { results := [.lit (.bool false)], args := [d1, d2, d3] }
  | _ => none }
def LoginSilenceWrongFalsely : Prop := loginSilenceRow.holds Tryz.pinned (OpenSpec.ofChange loginSilenceWrong)

/-- 'identitylaw39.LoginPlays': WHATEVER THE INPUT: true; the input reads as it did. -/
def loginPlaysSpec : ChangeSpec := { name := "loginPlays", fn := fun _ => fun
  | [d1, d2, d3] => { results := [.lit (.bool true)], args := [d1, d2, d3] }
  | _ => none }
def loginPlaysRow : OpenClaim := { program := "ytkhodjenbganfaagreatdoor", sum := "d4588be3d2a48577ca3fe439e7428f1c292dcb1e214b29fce8a756ff13409ab4", func := "identity/identitylaw39.LoginPlays", spec := "loginPlays", inPlace := ["internal/bytealg.IndexByteString", "internal/bytealg.IndexString"], unfollowed := true, recurses := true, named := ["identity/digest.digits", "unicode/utf8.first", "unicode/utf8.acceptRanges", "internal/strconv.uint64pow10", "math/bits.deBruijn32tab", "math/bits.deBruijn64tab", "internal/bytealg.MaxLen"], apart := false, laid := [("math/bits.deBruijn32tab", laid_math_bits_deBruijn32tab), ("math/bits.deBruijn64tab", laid_math_bits_deBruijn64tab), ("internal/strconv.uint64pow10", laid_internal_strconv_uint64pow10), ("unicode/utf8.acceptRanges", laid_unicode_utf8_acceptRanges), ("identity/digest.digits", laid_identity_digest_digits), ("unicode/utf8.first", laid_unicode_utf8_first)] }
def LoginPlaysSaid : Prop := loginPlaysRow.holds Tryz.pinned (OpenSpec.ofChange loginPlaysSpec)

/-- ITS FALSE NEIGHBOUR: 'it returns false'. Refute it at one input. -/
def loginPlaysWrong : ChangeSpec := { name := "loginPlays", fn := fun _ => fun
  | [d1, d2, d3] => { results := [.lit (.bool false)], args := [d1, d2, d3] }
  | _ => none }
def LoginPlaysWrongFalsely : Prop := loginPlaysRow.holds Tryz.pinned (OpenSpec.ofChange loginPlaysWrong)

/-- 'identitylaw39.LoginExpires': WHATEVER THE INPUT: true; the input reads as it did. -/
def loginExpiresSpec : ChangeSpec := { name := "loginExpires", fn := fun _ => fun
  | [d1, d2, d3] => { results := [.lit (.bool true)], args := [d1, d2, d3] }
  | _ => none }
def loginExpiresRow : OpenClaim := { program := "ytkhodjenbganfaagreatdoor", sum := "d4588be3d2a48577ca3fe439e7428f1c292dcb1e214b29fce8a756ff13409ab4", func := "identity/identitylaw39.LoginExpires", spec := "loginExpires", inPlace := ["internal/bytealg.IndexByteString", "internal/bytealg.IndexString"], unfollowed := true, recurses := true, named := ["identity/digest.digits", "unicode/utf8.first", "unicode/utf8.acceptRanges", "internal/strconv.uint64pow10", "math/bits.deBruijn32tab", "math/bits.deBruijn64tab", "internal/bytealg.MaxLen"], apart := false, laid := [("math/bits.deBruijn32tab", laid_math_bits_deBruijn32tab), ("math/bits.deBruijn64tab", laid_math_bits_deBruijn64tab), ("internal/strconv.uint64pow10", laid_internal_strconv_uint64pow10), ("unicode/utf8.acceptRanges", laid_unicode_utf8_acceptRanges), ("identity/digest.digits", laid_identity_digest_digits), ("unicode/utf8.first", laid_unicode_utf8_first)] }
def LoginExpiresSaid : Prop := loginExpiresRow.holds Tryz.pinned (OpenSpec.ofChange loginExpiresSpec)

/-- ITS FALSE NEIGHBOUR: 'it returns false'. Refute it at one input. -/
def loginExpiresWrong : ChangeSpec := { name := "loginExpires", fn := fun _ => fun
  | [d1, d2, d3] => { results := [.lit (.bool false)], args := [d1, d2, d3] }
  | _ => none }
def LoginExpiresWrongFalsely : Prop := loginExpiresRow.holds Tryz.pinned (OpenSpec.ofChange loginExpiresWrong)

/-- 'identitylaw39.LoginNil': WHATEVER THE INPUT: true; the input reads as it did. -/
def loginNilSpec : ChangeSpec := { name := "loginNil", fn := fun _ => fun
  | [d] => { results := [.lit (.bool true)], args := [d] }
  | _ => none }
def loginNilRow : OpenClaim := { program := "ytkhodjenbganfaagreatdoor", sum := "d4588be3d2a48577ca3fe439e7428f1c292dcb1e214b29fce8a756ff13409ab4", func := "identity/identitylaw39.LoginNil", spec := "loginNil", inPlace := ["internal/bytealg.IndexByteString", "internal/bytealg.IndexString"], unfollowed := true, recurses := true, named := ["identity/digest.digits", "unicode/utf8.first", "unicode/utf8.acceptRanges", "internal/strconv.uint64pow10", "math/bits.deBruijn32tab", "math/bits.deBruijn64tab", "internal/bytealg.MaxLen"], apart := false, laid := [("math/bits.deBruijn32tab", laid_math_bits_deBruijn32tab), ("math/bits.deBruijn64tab", laid_math_bits_deBruijn64tab), ("internal/strconv.uint64pow10", laid_internal_strconv_uint64pow10), ("unicode/utf8.acceptRanges", laid_unicode_utf8_acceptRanges), ("identity/digest.digits", laid_identity_digest_digits), ("unicode/utf8.first", laid_unicode_utf8_first)] }
def LoginNilSaid : Prop := loginNilRow.holds Tryz.pinned (OpenSpec.ofChange loginNilSpec)

/-- ITS FALSE NEIGHBOUR: 'it returns false'. Refute it at one input. -/
def loginNilWrong : ChangeSpec := { name := "loginNil", fn := fun _ => fun
  | [d] => { results := [.lit (.bool false)], args := [d] }
  | _ => none }
def LoginNilWrongFalsely : Prop := loginNilRow.holds Tryz.pinned (OpenSpec.ofChange loginNilWrong)

/- THE SECOND FORM. 'bulk': how many values and letters a reading holds, each counted each time it is reached (what is shared counts as often as it is met; a slice's spare places count too). A statement '..UptoSaid' is the law's where the arguments, and the package variables that the reading takes, are together of bulk at most 1048576: NARROWER than '..Said'. Prove '..Said' where nothing that the law and all that it calls make is longer than what came in: it says more and counts as full. Else prove '..UptoSaid'. A law counts once. -/
mutual
def uptoBulk {H : Type} : DataW H → Nat
  | .lit (.string bytes) => bytes.length + 1
  | .lit _ => 1
  | .nil => 1
  | .ptr d => uptoBulk d + 1
  | .slice elems spare => uptoBulkAll elems + uptoBulkAll spare + 1
  | .agg parts => uptoBulkAll parts + 1
  | .iface _ d => uptoBulk d + 1
  | .map entries => uptoBulkEntries entries + 1
  | .held _ => 1
def uptoBulkAll {H : Type} : List (DataW H) → Nat
  | [] => 0
  | d :: r => uptoBulk d + uptoBulkAll r
def uptoBulkEntries {H : Type} : List (Lit × DataW H) → Nat
  | [] => 0
  | x :: r => uptoBulkEntry x + uptoBulkEntries r
def uptoBulkEntry {H : Type} : Lit × DataW H → Nat
  | (.string bytes, d) => bytes.length + uptoBulk d + 1
  | (_, d) => uptoBulk d + 1
 end
def uptoSmall : (H : Type) → List (DataW H) → Bool := fun _ ds => decide (uptoBulkAll ds ≤ 1048576)
def OpenSpec.upto (s : _root_.Go.ChangeSpec) : _root_.Go.OpenSpec := { _root_.Go.OpenSpec.ofChange s with cond := some uptoSmall }

/-- 'identitylaw39.LoginSingle', WHERE WHAT IT READS IS OF BULK AT MOST 1048576: true; the input reads as it did. -/
def loginSingleUptoRow : OpenClaim := { program := "ytkhodjenbganfaagreatdoor", sum := "d4588be3d2a48577ca3fe439e7428f1c292dcb1e214b29fce8a756ff13409ab4", func := "identity/identitylaw39.LoginSingle", spec := "loginSingle", inPlace := ["internal/bytealg.IndexByteString", "internal/bytealg.IndexString"], unfollowed := true, recurses := true, named := ["identity/digest.digits", "unicode/utf8.first", "unicode/utf8.acceptRanges", "internal/strconv.uint64pow10", "math/bits.deBruijn32tab", "math/bits.deBruijn64tab", "internal/bytealg.MaxLen"], apart := false, laid := [("math/bits.deBruijn32tab", laid_math_bits_deBruijn32tab), ("math/bits.deBruijn64tab", laid_math_bits_deBruijn64tab), ("internal/strconv.uint64pow10", laid_internal_strconv_uint64pow10), ("unicode/utf8.acceptRanges", laid_unicode_utf8_acceptRanges), ("identity/digest.digits", laid_identity_digest_digits), ("unicode/utf8.first", laid_unicode_utf8_first)], narrowed := true }
def LoginSingleUptoSaid : Prop := loginSingleUptoRow.holds Tryz.pinned (OpenSpec.upto loginSingleSpec)

/-- 'identitylaw39.LoginStrength', WHERE WHAT IT READS IS OF BULK AT MOST 1048576: true; the input reads as it did. -/
def loginStrengthUptoRow : OpenClaim := { program := "ytkhodjenbganfaagreatdoor", sum := "d4588be3d2a48577ca3fe439e7428f1c292dcb1e214b29fce8a756ff13409ab4", func := "identity/identitylaw39.LoginStrength", spec := "loginStrength", inPlace := ["internal/bytealg.IndexByteString", "internal/bytealg.IndexString"], unfollowed := true, recurses := true, named := ["identity/digest.digits", "unicode/utf8.first", "unicode/utf8.acceptRanges", "internal/strconv.uint64pow10", "math/bits.deBruijn32tab", "math/bits.deBruijn64tab", "internal/bytealg.MaxLen"], apart := false, laid := [("math/bits.deBruijn32tab", laid_math_bits_deBruijn32tab), ("math/bits.deBruijn64tab", laid_math_bits_deBruijn64tab), ("internal/strconv.uint64pow10", laid_internal_strconv_uint64pow10), ("unicode/utf8.acceptRanges", laid_unicode_utf8_acceptRanges), ("identity/digest.digits", laid_identity_digest_digits), ("unicode/utf8.first", laid_unicode_utf8_first)], narrowed := true }
def LoginStrengthUptoSaid : Prop := loginStrengthUptoRow.holds Tryz.pinned (OpenSpec.upto loginStrengthSpec)

/-- 'identitylaw39.LoginSilence', WHERE WHAT IT READS IS OF BULK AT MOST 1048576: true; the input reads as it did. -/
def loginSilenceUptoRow : OpenClaim := { program := "ytkhodjenbganfaagreatdoor", sum := "d4588be3d2a48577ca3fe439e7428f1c292dcb1e214b29fce8a756ff13409ab4", func := "identity/identitylaw39.LoginSilence", spec := "loginSilence", inPlace := ["internal/bytealg.IndexByteString", "internal/bytealg.IndexString"], unfollowed := true, recurses := true, named := ["identity/digest.digits", "unicode/utf8.first", "unicode/utf8.acceptRanges", "internal/strconv.uint64pow10", "math/bits.deBruijn32tab", "math/bits.deBruijn64tab", "internal/bytealg.MaxLen"], apart := false, laid := [("math/bits.deBruijn32tab", laid_math_bits_deBruijn32tab), ("math/bits.deBruijn64tab", laid_math_bits_deBruijn64tab), ("internal/strconv.uint64pow10", laid_internal_strconv_uint64pow10), ("unicode/utf8.acceptRanges", laid_unicode_utf8_acceptRanges), ("identity/digest.digits", laid_identity_digest_digits), ("unicode/utf8.first", laid_unicode_utf8_first)], narrowed := true }
def LoginSilenceUptoSaid : Prop := loginSilenceUptoRow.holds Tryz.pinned (OpenSpec.upto loginSilenceSpec)

/-- 'identitylaw39.LoginPlays', WHERE WHAT IT READS IS OF BULK AT MOST 1048576: true; the input reads as it did. -/
def loginPlaysUptoRow : OpenClaim := { program := "ytkhodjenbganfaagreatdoor", sum := "d4588be3d2a48577ca3fe439e7428f1c292dcb1e214b29fce8a756ff13409ab4", func := "identity/identitylaw39.LoginPlays", spec := "loginPlays", inPlace := ["internal/bytealg.IndexByteString", "internal/bytealg.IndexString"], unfollowed := true, recurses := true, named := ["identity/digest.digits", "unicode/utf8.first", "unicode/utf8.acceptRanges", "internal/strconv.uint64pow10", "math/bits.deBruijn32tab", "math/bits.deBruijn64tab", "internal/bytealg.MaxLen"], apart := false, laid := [("math/bits.deBruijn32tab", laid_math_bits_deBruijn32tab), ("math/bits.deBruijn64tab", laid_math_bits_deBruijn64tab), ("internal/strconv.uint64pow10", laid_internal_strconv_uint64pow10), ("unicode/utf8.acceptRanges", laid_unicode_utf8_acceptRanges), ("identity/digest.digits", laid_identity_digest_digits), ("unicode/utf8.first", laid_unicode_utf8_first)], narrowed := true }
def LoginPlaysUptoSaid : Prop := loginPlaysUptoRow.holds Tryz.pinned (OpenSpec.upto loginPlaysSpec)

/-- 'identitylaw39.LoginExpires', WHERE WHAT IT READS IS OF BULK AT MOST 1048576: true; the input reads as it did. -/
def loginExpiresUptoRow : OpenClaim := { program := "ytkhodjenbganfaagreatdoor", sum := "d4588be3d2a48577ca3fe439e7428f1c292dcb1e214b29fce8a756ff13409ab4", func := "identity/identitylaw39.LoginExpires", spec := "loginExpires", inPlace := ["internal/bytealg.IndexByteString", "internal/bytealg.IndexString"], unfollowed := true, recurses := true, named := ["identity/digest.digits", "unicode/utf8.first", "unicode/utf8.acceptRanges", "internal/strconv.uint64pow10", "math/bits.deBruijn32tab", "math/bits.deBruijn64tab", "internal/bytealg.MaxLen"], apart := false, laid := [("math/bits.deBruijn32tab", laid_math_bits_deBruijn32tab), ("math/bits.deBruijn64tab", laid_math_bits_deBruijn64tab), ("internal/strconv.uint64pow10", laid_internal_strconv_uint64pow10), ("unicode/utf8.acceptRanges", laid_unicode_utf8_acceptRanges), ("identity/digest.digits", laid_identity_digest_digits), ("unicode/utf8.first", laid_unicode_utf8_first)], narrowed := true }
def LoginExpiresUptoSaid : Prop := loginExpiresUptoRow.holds Tryz.pinned (OpenSpec.upto loginExpiresSpec)

/-- 'identitylaw39.LoginNil', WHERE WHAT IT READS IS OF BULK AT MOST 1048576: true; the input reads as it did. -/
def loginNilUptoRow : OpenClaim := { program := "ytkhodjenbganfaagreatdoor", sum := "d4588be3d2a48577ca3fe439e7428f1c292dcb1e214b29fce8a756ff13409ab4", func := "identity/identitylaw39.LoginNil", spec := "loginNil", inPlace := ["internal/bytealg.IndexByteString", "internal/bytealg.IndexString"], unfollowed := true, recurses := true, named := ["identity/digest.digits", "unicode/utf8.first", "unicode/utf8.acceptRanges", "internal/strconv.uint64pow10", "math/bits.deBruijn32tab", "math/bits.deBruijn64tab", "internal/bytealg.MaxLen"], apart := false, laid := [("math/bits.deBruijn32tab", laid_math_bits_deBruijn32tab), ("math/bits.deBruijn64tab", laid_math_bits_deBruijn64tab), ("internal/strconv.uint64pow10", laid_internal_strconv_uint64pow10), ("unicode/utf8.acceptRanges", laid_unicode_utf8_acceptRanges), ("identity/digest.digits", laid_identity_digest_digits), ("unicode/utf8.first", laid_unicode_utf8_first)], narrowed := true }
def LoginNilUptoSaid : Prop := loginNilUptoRow.holds Tryz.pinned (OpenSpec.upto loginNilSpec)

end Rows
end Go.Proofs.YtkhodjenbganfaaGreatDoor
