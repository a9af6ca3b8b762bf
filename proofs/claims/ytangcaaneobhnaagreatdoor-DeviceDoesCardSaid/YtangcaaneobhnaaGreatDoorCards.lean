/-
  DERIVED. GIVEN WITH THE SEED: THE CARDS: each row of YtangcaaneobhnaaGreatDoorRows.lean that lists a variable, with what it lists TIED to the program's text (the seventh form; the later family's looks); each row that meets fmt, with fmt's text TOLD by the authors' own Lean function (tested against real Go, not proved from fmt's source: count such statements apart). THE CARD IS WHAT COUNTS. Prove the row's statement (the work); the ties are given (YtangcaaneobhnaaGreatDoorTie.lean); close each card by the builder's one call (the guide's Derived/Test/ToyasCard.lean, 'card_holds'). Laid BY PROGRAM, IN A SANDBOX (cutbox-door.mjs). By AI agents, Wed Nov 11 2026. No macro, syntax, notation, axiom, sorry.
-/
import Derived.Test.YtangcaaneobhnaaGreatDoorRows
import GoSem.ClaimSeven
namespace Go.Proofs.YtangcaaneobhnaaGreatDoor
namespace Rows

/-- THE TIED CARD OF 'identitylaw37.DeviceDoes'. -/
def deviceDoesCard : Claim7 := { stood := { row := deviceDoesRow, standIns := [], harness := (true, "47246acca5968c833ff0b093a0a93a800905466022d631e0e88ad4c12095502e"), looks := false }, kinds := [], alts := [], laidByText := true, laidKinds := [.data, .data, .data, .data, .data, .pinned], laidTests := true, laidLooks := .later }
def DeviceDoesCardSaid : Prop := Claim7.holds Tryz.pinned (.plain (OpenSpec.ofChange deviceDoesSpec)) deviceDoesCard

/-- THE SECOND FORM's CARD OF 'identitylaw37.DeviceDoes'. -/
def deviceDoesUptoCard : Claim7 := { stood := { row := deviceDoesUptoRow, standIns := [], harness := (true, "47246acca5968c833ff0b093a0a93a800905466022d631e0e88ad4c12095502e"), looks := false }, kinds := [], alts := [], laidByText := true, laidKinds := [.data, .data, .data, .data, .data, .pinned], laidTests := true, laidLooks := .later }
def DeviceDoesUptoCardSaid : Prop := Claim7.holds Tryz.pinned (.plain (OpenSpec.upto deviceDoesSpec)) deviceDoesUptoCard
end Rows
end Go.Proofs.YtangcaaneobhnaaGreatDoor
