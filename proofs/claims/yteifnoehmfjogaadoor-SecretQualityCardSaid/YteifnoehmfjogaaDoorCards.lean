/-
  DERIVED. GIVEN WITH THE SEED: THE CARDS: each row of YteifnoehmfjogaaDoorRows.lean that lists a variable, with what it lists TIED to the program's text (the seventh form; the later family's looks); each row that meets fmt, with fmt's text TOLD by the authors' own Lean function (tested against real Go, not proved from fmt's source: count such statements apart). THE CARD IS WHAT COUNTS. Prove the row's statement (the work); the ties are given (YteifnoehmfjogaaDoorTie.lean); close each card by the builder's one call (the guide's Derived/Test/ToyasCard.lean, 'card_holds'). Laid BY PROGRAM, IN A SANDBOX (cutbox-door.mjs). By AI agents, Wed Nov 11 2026. No macro, syntax, notation, axiom, sorry.
-/
import Derived.Test.YteifnoehmfjogaaDoorRows
import GoSem.ClaimSeven
namespace Go.Proofs.YteifnoehmfjogaaDoor
namespace Rows

/-- THE TIED CARD OF 'identitylaw22.SecretMakes'. -/
def secretMakesCard : Claim7 := { stood := { row := secretMakesRow, standIns := [], harness := (true, "a9af8ea46b4aa3e6ff7066dce97fbdaefc42b471a96b434efa05211f02e790b0"), looks := false }, kinds := [], alts := [], laidByText := true, laidKinds := [.data], laidTests := true, laidLooks := .later }
def SecretMakesCardSaid : Prop := Claim7.holds Tryd.pinned (.plain (OpenSpec.ofChange secretMakesSpec)) secretMakesCard

/-- THE TIED CARD OF 'identitylaw22.SecretQuality'. -/
def secretQualityCard : Claim7 := { stood := { row := secretQualityRow, standIns := [], harness := (true, "a9af8ea46b4aa3e6ff7066dce97fbdaefc42b471a96b434efa05211f02e790b0"), looks := false }, kinds := [], alts := [], laidByText := true, laidKinds := [.data], laidTests := true, laidLooks := .later }
def SecretQualityCardSaid : Prop := Claim7.holds Tryd.pinned (.plain (OpenSpec.ofChange secretQualitySpec)) secretQualityCard

/-- THE TIED CARD OF 'identitylaw22.SecretOnly'. -/
def secretOnlyCard : Claim7 := { stood := { row := secretOnlyRow, standIns := [], harness := (true, "a9af8ea46b4aa3e6ff7066dce97fbdaefc42b471a96b434efa05211f02e790b0"), looks := false }, kinds := [], alts := [], laidByText := true, laidKinds := [.data], laidTests := true, laidLooks := .later }
def SecretOnlyCardSaid : Prop := Claim7.holds Tryd.pinned (.plain (OpenSpec.ofChange secretOnlySpec)) secretOnlyCard

/-- THE TIED CARD OF 'identitylaw22.SecretLocks'. -/
def secretLocksCard : Claim7 := { stood := { row := secretLocksRow, standIns := [], harness := (true, "a9af8ea46b4aa3e6ff7066dce97fbdaefc42b471a96b434efa05211f02e790b0"), looks := false }, kinds := [], alts := [], laidByText := true, laidKinds := [.data], laidTests := true, laidLooks := .later }
def SecretLocksCardSaid : Prop := Claim7.holds Tryd.pinned (.plain (OpenSpec.ofChange secretLocksSpec)) secretLocksCard

/-- THE TIED CARD OF 'identitylaw22.SecretMany'. -/
def secretManyCard : Claim7 := { stood := { row := secretManyRow, standIns := [], harness := (true, "a9af8ea46b4aa3e6ff7066dce97fbdaefc42b471a96b434efa05211f02e790b0"), looks := false }, kinds := [], alts := [], laidByText := true, laidKinds := [.data], laidTests := true, laidLooks := .later }
def SecretManyCardSaid : Prop := Claim7.holds Tryd.pinned (.plain (OpenSpec.ofChange secretManySpec)) secretManyCard

/-- THE TIED CARD OF 'identitylaw22.SecretLocked'. -/
def secretLockedCard : Claim7 := { stood := { row := secretLockedRow, standIns := [], harness := (true, "a9af8ea46b4aa3e6ff7066dce97fbdaefc42b471a96b434efa05211f02e790b0"), looks := false }, kinds := [], alts := [], laidByText := true, laidKinds := [.data], laidTests := true, laidLooks := .later }
def SecretLockedCardSaid : Prop := Claim7.holds Tryd.pinned (.plain (OpenSpec.ofChange secretLockedSpec)) secretLockedCard

/-- THE SECOND FORM's CARD OF 'identitylaw22.SecretMakes'. -/
def secretMakesUptoCard : Claim7 := { stood := { row := secretMakesUptoRow, standIns := [], harness := (true, "a9af8ea46b4aa3e6ff7066dce97fbdaefc42b471a96b434efa05211f02e790b0"), looks := false }, kinds := [], alts := [], laidByText := true, laidKinds := [.data], laidTests := true, laidLooks := .later }
def SecretMakesUptoCardSaid : Prop := Claim7.holds Tryd.pinned (.plain (OpenSpec.upto secretMakesSpec)) secretMakesUptoCard

/-- THE SECOND FORM's CARD OF 'identitylaw22.SecretQuality'. -/
def secretQualityUptoCard : Claim7 := { stood := { row := secretQualityUptoRow, standIns := [], harness := (true, "a9af8ea46b4aa3e6ff7066dce97fbdaefc42b471a96b434efa05211f02e790b0"), looks := false }, kinds := [], alts := [], laidByText := true, laidKinds := [.data], laidTests := true, laidLooks := .later }
def SecretQualityUptoCardSaid : Prop := Claim7.holds Tryd.pinned (.plain (OpenSpec.upto secretQualitySpec)) secretQualityUptoCard

/-- THE SECOND FORM's CARD OF 'identitylaw22.SecretOnly'. -/
def secretOnlyUptoCard : Claim7 := { stood := { row := secretOnlyUptoRow, standIns := [], harness := (true, "a9af8ea46b4aa3e6ff7066dce97fbdaefc42b471a96b434efa05211f02e790b0"), looks := false }, kinds := [], alts := [], laidByText := true, laidKinds := [.data], laidTests := true, laidLooks := .later }
def SecretOnlyUptoCardSaid : Prop := Claim7.holds Tryd.pinned (.plain (OpenSpec.upto secretOnlySpec)) secretOnlyUptoCard

/-- THE SECOND FORM's CARD OF 'identitylaw22.SecretLocks'. -/
def secretLocksUptoCard : Claim7 := { stood := { row := secretLocksUptoRow, standIns := [], harness := (true, "a9af8ea46b4aa3e6ff7066dce97fbdaefc42b471a96b434efa05211f02e790b0"), looks := false }, kinds := [], alts := [], laidByText := true, laidKinds := [.data], laidTests := true, laidLooks := .later }
def SecretLocksUptoCardSaid : Prop := Claim7.holds Tryd.pinned (.plain (OpenSpec.upto secretLocksSpec)) secretLocksUptoCard

/-- THE SECOND FORM's CARD OF 'identitylaw22.SecretMany'. -/
def secretManyUptoCard : Claim7 := { stood := { row := secretManyUptoRow, standIns := [], harness := (true, "a9af8ea46b4aa3e6ff7066dce97fbdaefc42b471a96b434efa05211f02e790b0"), looks := false }, kinds := [], alts := [], laidByText := true, laidKinds := [.data], laidTests := true, laidLooks := .later }
def SecretManyUptoCardSaid : Prop := Claim7.holds Tryd.pinned (.plain (OpenSpec.upto secretManySpec)) secretManyUptoCard

/-- THE SECOND FORM's CARD OF 'identitylaw22.SecretLocked'. -/
def secretLockedUptoCard : Claim7 := { stood := { row := secretLockedUptoRow, standIns := [], harness := (true, "a9af8ea46b4aa3e6ff7066dce97fbdaefc42b471a96b434efa05211f02e790b0"), looks := false }, kinds := [], alts := [], laidByText := true, laidKinds := [.data], laidTests := true, laidLooks := .later }
def SecretLockedUptoCardSaid : Prop := Claim7.holds Tryd.pinned (.plain (OpenSpec.upto secretLockedSpec)) secretLockedUptoCard
end Rows
end Go.Proofs.YteifnoehmfjogaaDoor
