/-
  DERIVED. GIVEN WITH THE SEED: THE CARDS: each row of YtkhodjenbganfaaGreatDoorRows.lean that lists a variable, with what it lists TIED to the program's text (the seventh form; the later family's looks); each row that meets fmt, with fmt's text TOLD by the authors' own Lean function (tested against real Go, not proved from fmt's source: count such statements apart). THE CARD IS WHAT COUNTS. Prove the row's statement (the work); the ties are given (YtkhodjenbganfaaGreatDoorTie.lean); close each card by the builder's one call (the guide's Derived/Test/ToyasCard.lean, 'card_holds'). Laid BY PROGRAM, IN A SANDBOX (cutbox-door.mjs). By AI agents, Wed Nov 11 2026. No macro, syntax, notation, axiom, sorry.
-/
import Derived.Test.YtkhodjenbganfaaGreatDoorRows
import GoSem.ClaimSeven
namespace Go.Proofs.YtkhodjenbganfaaGreatDoor
namespace Rows

/-- THE TIED CARD OF 'identitylaw39.LoginSingle'. -/
def loginSingleCard : Claim7 := { stood := { row := loginSingleRow, standIns := [], harness := (true, "fa8c47af7d0e6a33cb570eac993ba647b68f8b5251408ccc6ec56a6600e8888f"), looks := false }, kinds := [], alts := [], laidByText := true, laidKinds := [.data, .data, .data, .data, .data, .pinned], laidTests := true, laidLooks := .later }
def LoginSingleCardSaid : Prop := Claim7.holds Tryz.pinned (.plain (OpenSpec.ofChange loginSingleSpec)) loginSingleCard

/-- THE TIED CARD OF 'identitylaw39.LoginStrength'. -/
def loginStrengthCard : Claim7 := { stood := { row := loginStrengthRow, standIns := [], harness := (true, "fa8c47af7d0e6a33cb570eac993ba647b68f8b5251408ccc6ec56a6600e8888f"), looks := false }, kinds := [], alts := [], laidByText := true, laidKinds := [.data, .data, .data, .data, .data, .pinned], laidTests := true, laidLooks := .later }
def LoginStrengthCardSaid : Prop := Claim7.holds Tryz.pinned (.plain (OpenSpec.ofChange loginStrengthSpec)) loginStrengthCard

/-- THE TIED CARD OF 'identitylaw39.LoginSilence'. -/
def loginSilenceCard : Claim7 := { stood := { row := loginSilenceRow, standIns := [], harness := (true, "fa8c47af7d0e6a33cb570eac993ba647b68f8b5251408ccc6ec56a6600e8888f"), looks := false }, kinds := [], alts := [], laidByText := true, laidKinds := [.data, .data, .data, .data, .data, .pinned], laidTests := true, laidLooks := .later }
def LoginSilenceCardSaid : Prop := Claim7.holds Tryz.pinned (.plain (OpenSpec.ofChange loginSilenceSpec)) loginSilenceCard

/-- THE TIED CARD OF 'identitylaw39.LoginPlays'. -/
def loginPlaysCard : Claim7 := { stood := { row := loginPlaysRow, standIns := [], harness := (true, "fa8c47af7d0e6a33cb570eac993ba647b68f8b5251408ccc6ec56a6600e8888f"), looks := false }, kinds := [], alts := [], laidByText := true, laidKinds := [.data, .data, .data, .data, .data, .pinned], laidTests := true, laidLooks := .later }
def LoginPlaysCardSaid : Prop := Claim7.holds Tryz.pinned (.plain (OpenSpec.ofChange loginPlaysSpec)) loginPlaysCard

/-- THE TIED CARD OF 'identitylaw39.LoginExpires'. -/
def loginExpiresCard : Claim7 := { stood := { row := loginExpiresRow, standIns := [], harness := (true, "fa8c47af7d0e6a33cb570eac993ba647b68f8b5251408ccc6ec56a6600e8888f"), looks := false }, kinds := [], alts := [], laidByText := true, laidKinds := [.data, .data, .data, .data, .data, .pinned], laidTests := true, laidLooks := .later }
def LoginExpiresCardSaid : Prop := Claim7.holds Tryz.pinned (.plain (OpenSpec.ofChange loginExpiresSpec)) loginExpiresCard

/-- THE TIED CARD OF 'identitylaw39.LoginNil'. -/
def loginNilCard : Claim7 := { stood := { row := loginNilRow, standIns := [], harness := (true, "fa8c47af7d0e6a33cb570eac993ba647b68f8b5251408ccc6ec56a6600e8888f"), looks := false }, kinds := [], alts := [], laidByText := true, laidKinds := [.data, .data, .data, .data, .data, .pinned], laidTests := true, laidLooks := .later }
def LoginNilCardSaid : Prop := Claim7.holds Tryz.pinned (.plain (OpenSpec.ofChange loginNilSpec)) loginNilCard

/-- THE SECOND FORM's CARD OF 'identitylaw39.LoginSingle'. -/
def loginSingleUptoCard : Claim7 := { stood := { row := loginSingleUptoRow, standIns := [], harness := (true, "fa8c47af7d0e6a33cb570eac993ba647b68f8b5251408ccc6ec56a6600e8888f"), looks := false }, kinds := [], alts := [], laidByText := true, laidKinds := [.data, .data, .data, .data, .data, .pinned], laidTests := true, laidLooks := .later }
def LoginSingleUptoCardSaid : Prop := Claim7.holds Tryz.pinned (.plain (OpenSpec.upto loginSingleSpec)) loginSingleUptoCard

/-- THE SECOND FORM's CARD OF 'identitylaw39.LoginStrength'. -/
def loginStrengthUptoCard : Claim7 := { stood := { row := loginStrengthUptoRow, standIns := [], harness := (true, "fa8c47af7d0e6a33cb570eac993ba647b68f8b5251408ccc6ec56a6600e8888f"), looks := false }, kinds := [], alts := [], laidByText := true, laidKinds := [.data, .data, .data, .data, .data, .pinned], laidTests := true, laidLooks := .later }
def LoginStrengthUptoCardSaid : Prop := Claim7.holds Tryz.pinned (.plain (OpenSpec.upto loginStrengthSpec)) loginStrengthUptoCard

/-- THE SECOND FORM's CARD OF 'identitylaw39.LoginSilence'. -/
def loginSilenceUptoCard : Claim7 := { stood := { row := loginSilenceUptoRow, standIns := [], harness := (true, "fa8c47af7d0e6a33cb570eac993ba647b68f8b5251408ccc6ec56a6600e8888f"), looks := false }, kinds := [], alts := [], laidByText := true, laidKinds := [.data, .data, .data, .data, .data, .pinned], laidTests := true, laidLooks := .later }
def LoginSilenceUptoCardSaid : Prop := Claim7.holds Tryz.pinned (.plain (OpenSpec.upto loginSilenceSpec)) loginSilenceUptoCard

/-- THE SECOND FORM's CARD OF 'identitylaw39.LoginPlays'. -/
def loginPlaysUptoCard : Claim7 := { stood := { row := loginPlaysUptoRow, standIns := [], harness := (true, "fa8c47af7d0e6a33cb570eac993ba647b68f8b5251408ccc6ec56a6600e8888f"), looks := false }, kinds := [], alts := [], laidByText := true, laidKinds := [.data, .data, .data, .data, .data, .pinned], laidTests := true, laidLooks := .later }
def LoginPlaysUptoCardSaid : Prop := Claim7.holds Tryz.pinned (.plain (OpenSpec.upto loginPlaysSpec)) loginPlaysUptoCard

/-- THE SECOND FORM's CARD OF 'identitylaw39.LoginExpires'. -/
def loginExpiresUptoCard : Claim7 := { stood := { row := loginExpiresUptoRow, standIns := [], harness := (true, "fa8c47af7d0e6a33cb570eac993ba647b68f8b5251408ccc6ec56a6600e8888f"), looks := false }, kinds := [], alts := [], laidByText := true, laidKinds := [.data, .data, .data, .data, .data, .pinned], laidTests := true, laidLooks := .later }
def LoginExpiresUptoCardSaid : Prop := Claim7.holds Tryz.pinned (.plain (OpenSpec.upto loginExpiresSpec)) loginExpiresUptoCard

/-- THE SECOND FORM's CARD OF 'identitylaw39.LoginNil'. -/
def loginNilUptoCard : Claim7 := { stood := { row := loginNilUptoRow, standIns := [], harness := (true, "fa8c47af7d0e6a33cb570eac993ba647b68f8b5251408ccc6ec56a6600e8888f"), looks := false }, kinds := [], alts := [], laidByText := true, laidKinds := [.data, .data, .data, .data, .data, .pinned], laidTests := true, laidLooks := .later }
def LoginNilUptoCardSaid : Prop := Claim7.holds Tryz.pinned (.plain (OpenSpec.upto loginNilSpec)) loginNilUptoCard
end Rows
end Go.Proofs.YtkhodjenbganfaaGreatDoor
