/-
  DERIVED. GIVEN WITH THE SEED: THE CARDS: each row of YtdoofogkkgpjiaaGreatDoorRows.lean that lists a variable, with what it lists TIED to the program's text (the seventh form; the later family's looks); each row that meets fmt, with fmt's text TOLD by the authors' own Lean function (tested against real Go, not proved from fmt's source: count such statements apart). THE CARD IS WHAT COUNTS. Prove the row's statement (the work); the ties are given (YtdoofogkkgpjiaaGreatDoorTie.lean); close each card by the builder's one call (the guide's Derived/Test/ToyasCard.lean, 'card_holds'). Laid BY PROGRAM, IN A SANDBOX (cutbox-door.mjs). By AI agents, Wed Nov 11 2026. No macro, syntax, notation, axiom, sorry.
-/
import Derived.Test.YtdoofogkkgpjiaaGreatDoorRows
import GoSem.ClaimSeven
namespace Go.Proofs.YtdoofogkkgpjiaaGreatDoor
namespace Rows

/-- THE TIED CARD OF 'dynamometerlaw8.WorldTravelMatchesSpec'. -/
def worldTravelMatchesSpecCard : Claim7 := { stood := { row := worldTravelMatchesSpecRow, standIns := [], harness := (true, "43054cc2c1c4adc3562e75a823ae9961170d973855f3c428f0058bad6284ca5c"), looks := true }, kinds := [], alts := [], laidByText := true, laidKinds := [.data, .pinned, .data, .data, .data, .pinned, .data, .data, .sentinel, .sentinel], laidTests := true, laidLooks := .later }
def WorldTravelMatchesSpecCardSaid : Prop := Claim7.holds Tryz.pinned (.plain (OpenSpec.ofChange worldTravelMatchesSpecSpec)) worldTravelMatchesSpecCard

/-- THE SECOND FORM's CARD OF 'dynamometerlaw8.WorldTravelMatchesSpec'. -/
def worldTravelMatchesSpecUptoCard : Claim7 := { stood := { row := worldTravelMatchesSpecUptoRow, standIns := [], harness := (true, "43054cc2c1c4adc3562e75a823ae9961170d973855f3c428f0058bad6284ca5c"), looks := true }, kinds := [], alts := [], laidByText := true, laidKinds := [.data, .pinned, .data, .data, .data, .pinned, .data, .data, .sentinel, .sentinel], laidTests := true, laidLooks := .later }
def WorldTravelMatchesSpecUptoCardSaid : Prop := Claim7.holds Tryz.pinned (.plain (OpenSpec.upto worldTravelMatchesSpecSpec)) worldTravelMatchesSpecUptoCard
end Rows
end Go.Proofs.YtdoofogkkgpjiaaGreatDoor
