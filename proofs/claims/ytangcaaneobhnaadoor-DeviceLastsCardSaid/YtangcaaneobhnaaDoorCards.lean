/-
  DERIVED. GIVEN WITH THE SEED: THE CARDS: each row of YtangcaaneobhnaaDoorRows.lean that lists a variable, with what it lists TIED to the program's text (the seventh form; the later family's looks); each row that meets fmt, with fmt's text TOLD by the authors' own Lean function (tested against real Go, not proved from fmt's source: count such statements apart). THE CARD IS WHAT COUNTS. Prove the row's statement (the work); the ties are given (YtangcaaneobhnaaDoorTie.lean); close each card by the builder's one call (the guide's Derived/Test/ToyasCard.lean, 'card_holds'). Laid BY PROGRAM, IN A SANDBOX (cutbox-door.mjs). By AI agents, Wed Nov 11 2026. No macro, syntax, notation, axiom, sorry.
-/
import Derived.Test.YtangcaaneobhnaaDoorRows
import GoSem.ClaimSeven
namespace Go.Proofs.YtangcaaneobhnaaDoor
namespace Rows

/-- THE TIED CARD OF 'identitylaw37.DeviceOnce'. -/
def deviceOnceCard : Claim7 := { stood := { row := deviceOnceRow, standIns := [], harness := (true, "4845a5bc437e879e97a5f699906d433d7f89255b4875a3e7ec73dce9ef688289"), looks := false }, kinds := [], alts := [], laidByText := true, laidKinds := [.data, .data, .data, .data, .data, .pinned], laidTests := true, laidLooks := .later }
def DeviceOnceCardSaid : Prop := Claim7.holds Tryd.pinned (.plain (OpenSpec.ofChange deviceOnceSpec)) deviceOnceCard

/-- THE TIED CARD OF 'identitylaw37.DeviceChallenges'. -/
def deviceChallengesCard : Claim7 := { stood := { row := deviceChallengesRow, standIns := [], harness := (true, "4845a5bc437e879e97a5f699906d433d7f89255b4875a3e7ec73dce9ef688289"), looks := false }, kinds := [], alts := [], laidByText := true, laidKinds := [.data, .data, .data, .data, .data, .pinned], laidTests := true, laidLooks := .later }
def DeviceChallengesCardSaid : Prop := Claim7.holds Tryd.pinned (.plain (OpenSpec.ofChange deviceChallengesSpec)) deviceChallengesCard

/-- THE TIED CARD OF 'identitylaw37.DeviceApart'. -/
def deviceApartCard : Claim7 := { stood := { row := deviceApartRow, standIns := [], harness := (true, "4845a5bc437e879e97a5f699906d433d7f89255b4875a3e7ec73dce9ef688289"), looks := false }, kinds := [], alts := [], laidByText := true, laidKinds := [.data, .data, .data, .data, .data, .pinned], laidTests := true, laidLooks := .later }
def DeviceApartCardSaid : Prop := Claim7.holds Tryd.pinned (.plain (OpenSpec.ofChange deviceApartSpec)) deviceApartCard

/-- THE TIED CARD OF 'identitylaw37.DeviceAnswers'. -/
def deviceAnswersCard : Claim7 := { stood := { row := deviceAnswersRow, standIns := [], harness := (true, "4845a5bc437e879e97a5f699906d433d7f89255b4875a3e7ec73dce9ef688289"), looks := false }, kinds := [], alts := [], laidByText := true, laidKinds := [.data, .data, .data, .data, .data, .pinned], laidTests := true, laidLooks := .later }
def DeviceAnswersCardSaid : Prop := Claim7.holds Tryd.pinned (.plain (OpenSpec.ofChange deviceAnswersSpec)) deviceAnswersCard

/-- THE TIED CARD OF 'identitylaw37.DeviceLasts'. -/
def deviceLastsCard : Claim7 := { stood := { row := deviceLastsRow, standIns := [], harness := (true, "4845a5bc437e879e97a5f699906d433d7f89255b4875a3e7ec73dce9ef688289"), looks := false }, kinds := [], alts := [], laidByText := true, laidKinds := [.data, .data, .data, .data, .data, .pinned], laidTests := true, laidLooks := .later }
def DeviceLastsCardSaid : Prop := Claim7.holds Tryd.pinned (.plain (OpenSpec.ofChange deviceLastsSpec)) deviceLastsCard

/-- THE SECOND FORM's CARD OF 'identitylaw37.DeviceOnce'. -/
def deviceOnceUptoCard : Claim7 := { stood := { row := deviceOnceUptoRow, standIns := [], harness := (true, "4845a5bc437e879e97a5f699906d433d7f89255b4875a3e7ec73dce9ef688289"), looks := false }, kinds := [], alts := [], laidByText := true, laidKinds := [.data, .data, .data, .data, .data, .pinned], laidTests := true, laidLooks := .later }
def DeviceOnceUptoCardSaid : Prop := Claim7.holds Tryd.pinned (.plain (OpenSpec.upto deviceOnceSpec)) deviceOnceUptoCard

/-- THE SECOND FORM's CARD OF 'identitylaw37.DeviceChallenges'. -/
def deviceChallengesUptoCard : Claim7 := { stood := { row := deviceChallengesUptoRow, standIns := [], harness := (true, "4845a5bc437e879e97a5f699906d433d7f89255b4875a3e7ec73dce9ef688289"), looks := false }, kinds := [], alts := [], laidByText := true, laidKinds := [.data, .data, .data, .data, .data, .pinned], laidTests := true, laidLooks := .later }
def DeviceChallengesUptoCardSaid : Prop := Claim7.holds Tryd.pinned (.plain (OpenSpec.upto deviceChallengesSpec)) deviceChallengesUptoCard

/-- THE SECOND FORM's CARD OF 'identitylaw37.DeviceApart'. -/
def deviceApartUptoCard : Claim7 := { stood := { row := deviceApartUptoRow, standIns := [], harness := (true, "4845a5bc437e879e97a5f699906d433d7f89255b4875a3e7ec73dce9ef688289"), looks := false }, kinds := [], alts := [], laidByText := true, laidKinds := [.data, .data, .data, .data, .data, .pinned], laidTests := true, laidLooks := .later }
def DeviceApartUptoCardSaid : Prop := Claim7.holds Tryd.pinned (.plain (OpenSpec.upto deviceApartSpec)) deviceApartUptoCard

/-- THE SECOND FORM's CARD OF 'identitylaw37.DeviceAnswers'. -/
def deviceAnswersUptoCard : Claim7 := { stood := { row := deviceAnswersUptoRow, standIns := [], harness := (true, "4845a5bc437e879e97a5f699906d433d7f89255b4875a3e7ec73dce9ef688289"), looks := false }, kinds := [], alts := [], laidByText := true, laidKinds := [.data, .data, .data, .data, .data, .pinned], laidTests := true, laidLooks := .later }
def DeviceAnswersUptoCardSaid : Prop := Claim7.holds Tryd.pinned (.plain (OpenSpec.upto deviceAnswersSpec)) deviceAnswersUptoCard

/-- THE SECOND FORM's CARD OF 'identitylaw37.DeviceLasts'. -/
def deviceLastsUptoCard : Claim7 := { stood := { row := deviceLastsUptoRow, standIns := [], harness := (true, "4845a5bc437e879e97a5f699906d433d7f89255b4875a3e7ec73dce9ef688289"), looks := false }, kinds := [], alts := [], laidByText := true, laidKinds := [.data, .data, .data, .data, .data, .pinned], laidTests := true, laidLooks := .later }
def DeviceLastsUptoCardSaid : Prop := Claim7.holds Tryd.pinned (.plain (OpenSpec.upto deviceLastsSpec)) deviceLastsUptoCard
end Rows
end Go.Proofs.YtangcaaneobhnaaDoor
