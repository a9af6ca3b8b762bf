/-
  DERIVED. GIVEN WITH THE SEED: THE CARDS: each row of YtmdbnoopcdpomaaGreatDoorRows.lean that lists a variable, with what it lists TIED to the program's text (the seventh form; the later family's looks); each row that meets fmt, with fmt's text TOLD by the authors' own Lean function (tested against real Go, not proved from fmt's source: count such statements apart). THE CARD IS WHAT COUNTS. Prove the row's statement (the work); the ties are given (YtmdbnoopcdpomaaGreatDoorTie.lean); close each card by the builder's one call (the guide's Derived/Test/ToyasCard.lean, 'card_holds'). Laid BY PROGRAM, IN A SANDBOX (cutbox-door.mjs). By AI agents, Wed Nov 11 2026. No macro, syntax, notation, axiom, sorry.
-/
import Derived.Test.YtmdbnoopcdpomaaGreatDoorRows
import GoSem.ClaimSeven
namespace Go.Proofs.YtmdbnoopcdpomaaGreatDoor
namespace Rows

/-- THE TIED CARD OF 'identitylaw36.ClientChecks'. -/
def clientChecksCard : Claim7 := { stood := { row := clientChecksRow, standIns := [], harness := (true, "4a5c67332ba28e281378252b54b769322b0163896173382bb608a4a2b09005ac"), looks := false }, kinds := [], alts := [], laidByText := true, laidKinds := [.data, .data, .pinned], laidTests := true, laidLooks := .later }
def ClientChecksCardSaid : Prop := Claim7.holds Tryz.pinned (.plain (OpenSpec.ofChange clientChecksSpec)) clientChecksCard

/-- THE TIED CARD OF 'identitylaw36.ClientScopes'. -/
def clientScopesCard : Claim7 := { stood := { row := clientScopesRow, standIns := [], harness := (true, "4a5c67332ba28e281378252b54b769322b0163896173382bb608a4a2b09005ac"), looks := false }, kinds := [], alts := [], laidByText := true, laidKinds := [.data, .data, .pinned], laidTests := true, laidLooks := .later }
def ClientScopesCardSaid : Prop := Claim7.holds Tryz.pinned (.plain (OpenSpec.ofChange clientScopesSpec)) clientScopesCard

/-- THE TIED CARD OF 'identitylaw36.ClientPlays'. -/
def clientPlaysCard : Claim7 := { stood := { row := clientPlaysRow, standIns := [], harness := (true, "4a5c67332ba28e281378252b54b769322b0163896173382bb608a4a2b09005ac"), looks := false }, kinds := [], alts := [], laidByText := true, laidKinds := [.data, .data, .pinned], laidTests := true, laidLooks := .later }
def ClientPlaysCardSaid : Prop := Claim7.holds Tryz.pinned (.plain (OpenSpec.ofChange clientPlaysSpec)) clientPlaysCard

/-- THE TIED CARD OF 'identitylaw36.ClientRegisters'. -/
def clientRegistersCard : Claim7 := { stood := { row := clientRegistersRow, standIns := [], harness := (true, "4a5c67332ba28e281378252b54b769322b0163896173382bb608a4a2b09005ac"), looks := false }, kinds := [], alts := [], laidByText := true, laidKinds := [.data, .data, .pinned], laidTests := true, laidLooks := .later }
def ClientRegistersCardSaid : Prop := Claim7.holds Tryz.pinned (.plain (OpenSpec.ofChange clientRegistersSpec)) clientRegistersCard

/-- THE TIED CARD OF 'identitylaw36.ClientApart'. -/
def clientApartCard : Claim7 := { stood := { row := clientApartRow, standIns := [], harness := (true, "4a5c67332ba28e281378252b54b769322b0163896173382bb608a4a2b09005ac"), looks := false }, kinds := [], alts := [], laidByText := true, laidKinds := [.data, .data, .pinned], laidTests := true, laidLooks := .later }
def ClientApartCardSaid : Prop := Claim7.holds Tryz.pinned (.plain (OpenSpec.ofChange clientApartSpec)) clientApartCard

/-- THE TIED CARD OF 'identitylaw36.ClientNil'. -/
def clientNilCard : Claim7 := { stood := { row := clientNilRow, standIns := [], harness := (true, "4a5c67332ba28e281378252b54b769322b0163896173382bb608a4a2b09005ac"), looks := false }, kinds := [], alts := [], laidByText := true, laidKinds := [.data, .data, .pinned], laidTests := true, laidLooks := .later }
def ClientNilCardSaid : Prop := Claim7.holds Tryz.pinned (.plain (OpenSpec.ofChange clientNilSpec)) clientNilCard

/-- THE TIED CARD OF 'identitylaw36.ClientSecrets'. -/
def clientSecretsCard : Claim7 := { stood := { row := clientSecretsRow, standIns := [], harness := (true, "4a5c67332ba28e281378252b54b769322b0163896173382bb608a4a2b09005ac"), looks := false }, kinds := [], alts := [], laidByText := true, laidKinds := [.data, .data, .pinned], laidTests := true, laidLooks := .later }
def ClientSecretsCardSaid : Prop := Claim7.holds Tryz.pinned (.plain (OpenSpec.ofChange clientSecretsSpec)) clientSecretsCard

/-- THE SECOND FORM's CARD OF 'identitylaw36.ClientChecks'. -/
def clientChecksUptoCard : Claim7 := { stood := { row := clientChecksUptoRow, standIns := [], harness := (true, "4a5c67332ba28e281378252b54b769322b0163896173382bb608a4a2b09005ac"), looks := false }, kinds := [], alts := [], laidByText := true, laidKinds := [.data, .data, .pinned], laidTests := true, laidLooks := .later }
def ClientChecksUptoCardSaid : Prop := Claim7.holds Tryz.pinned (.plain (OpenSpec.upto clientChecksSpec)) clientChecksUptoCard

/-- THE SECOND FORM's CARD OF 'identitylaw36.ClientScopes'. -/
def clientScopesUptoCard : Claim7 := { stood := { row := clientScopesUptoRow, standIns := [], harness := (true, "4a5c67332ba28e281378252b54b769322b0163896173382bb608a4a2b09005ac"), looks := false }, kinds := [], alts := [], laidByText := true, laidKinds := [.data, .data, .pinned], laidTests := true, laidLooks := .later }
def ClientScopesUptoCardSaid : Prop := Claim7.holds Tryz.pinned (.plain (OpenSpec.upto clientScopesSpec)) clientScopesUptoCard

/-- THE SECOND FORM's CARD OF 'identitylaw36.ClientPlays'. -/
def clientPlaysUptoCard : Claim7 := { stood := { row := clientPlaysUptoRow, standIns := [], harness := (true, "4a5c67332ba28e281378252b54b769322b0163896173382bb608a4a2b09005ac"), looks := false }, kinds := [], alts := [], laidByText := true, laidKinds := [.data, .data, .pinned], laidTests := true, laidLooks := .later }
def ClientPlaysUptoCardSaid : Prop := Claim7.holds Tryz.pinned (.plain (OpenSpec.upto clientPlaysSpec)) clientPlaysUptoCard

/-- THE SECOND FORM's CARD OF 'identitylaw36.ClientRegisters'. -/
def clientRegistersUptoCard : Claim7 := { stood := { row := clientRegistersUptoRow, standIns := [], harness := (true, "4a5c67332ba28e281378252b54b769322b0163896173382bb608a4a2b09005ac"), looks := false }, kinds := [], alts := [], laidByText := true, laidKinds := [.data, .data, .pinned], laidTests := true, laidLooks := .later }
def ClientRegistersUptoCardSaid : Prop := Claim7.holds Tryz.pinned (.plain (OpenSpec.upto clientRegistersSpec)) clientRegistersUptoCard

/-- THE SECOND FORM's CARD OF 'identitylaw36.ClientApart'. -/
def clientApartUptoCard : Claim7 := { stood := { row := clientApartUptoRow, standIns := [], harness := (true, "4a5c67332ba28e281378252b54b769322b0163896173382bb608a4a2b09005ac"), looks := false }, kinds := [], alts := [], laidByText := true, laidKinds := [.data, .data, .pinned], laidTests := true, laidLooks := .later }
def ClientApartUptoCardSaid : Prop := Claim7.holds Tryz.pinned (.plain (OpenSpec.upto clientApartSpec)) clientApartUptoCard

/-- THE SECOND FORM's CARD OF 'identitylaw36.ClientNil'. -/
def clientNilUptoCard : Claim7 := { stood := { row := clientNilUptoRow, standIns := [], harness := (true, "4a5c67332ba28e281378252b54b769322b0163896173382bb608a4a2b09005ac"), looks := false }, kinds := [], alts := [], laidByText := true, laidKinds := [.data, .data, .pinned], laidTests := true, laidLooks := .later }
def ClientNilUptoCardSaid : Prop := Claim7.holds Tryz.pinned (.plain (OpenSpec.upto clientNilSpec)) clientNilUptoCard

/-- THE SECOND FORM's CARD OF 'identitylaw36.ClientSecrets'. -/
def clientSecretsUptoCard : Claim7 := { stood := { row := clientSecretsUptoRow, standIns := [], harness := (true, "4a5c67332ba28e281378252b54b769322b0163896173382bb608a4a2b09005ac"), looks := false }, kinds := [], alts := [], laidByText := true, laidKinds := [.data, .data, .pinned], laidTests := true, laidLooks := .later }
def ClientSecretsUptoCardSaid : Prop := Claim7.holds Tryz.pinned (.plain (OpenSpec.upto clientSecretsSpec)) clientSecretsUptoCard
end Rows
end Go.Proofs.YtmdbnoopcdpomaaGreatDoor
