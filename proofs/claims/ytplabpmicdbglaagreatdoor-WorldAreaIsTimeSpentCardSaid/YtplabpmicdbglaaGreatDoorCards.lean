/-
  DERIVED. GIVEN WITH THE SEED: THE CARDS: each row of YtplabpmicdbglaaGreatDoorRows.lean that lists a variable, with what it lists TIED to the program's text (the seventh form; the later family's looks); each row that meets fmt, with fmt's text TOLD by the authors' own Lean function (tested against real Go, not proved from fmt's source: count such statements apart). THE CARD IS WHAT COUNTS. Prove the row's statement (the work); the ties are given (YtplabpmicdbglaaGreatDoorTie.lean); close each card by the builder's one call (the guide's Derived/Test/ToyasCard.lean, 'card_holds'). Laid BY PROGRAM, IN A SANDBOX (cutbox-door.mjs). By AI agents, Wed Nov 11 2026. No macro, syntax, notation, axiom, sorry.
-/
import Derived.Test.YtplabpmicdbglaaGreatDoorRows
import GoSem.ClaimSeven
namespace Go.Proofs.YtplabpmicdbglaaGreatDoor
namespace Rows

/-- THE TIED CARD OF 'dynamometerlaw8.WorldLogMatchesSpec'. -/
def worldLogMatchesSpecCard : Claim7 := { stood := { row := worldLogMatchesSpecRow, standIns := [], harness := (true, "5fd8b883075d090c724f10debf39ed2ce67b0f821b93825530f34483e3229d16"), looks := true }, kinds := [], alts := [], laidByText := true, laidKinds := [.data, .pinned, .data, .data, .data, .pinned, .data, .data, .sentinel, .sentinel], laidTests := true, laidLooks := .later }
def WorldLogMatchesSpecCardSaid : Prop := Claim7.holds Tryz.pinned (.plain (OpenSpec.ofChange worldLogMatchesSpecSpec)) worldLogMatchesSpecCard

/-- THE TIED CARD OF 'dynamometerlaw8.WorldSamplesMatchSpec'. -/
def worldSamplesMatchSpecCard : Claim7 := { stood := { row := worldSamplesMatchSpecRow, standIns := [], harness := (true, "5fd8b883075d090c724f10debf39ed2ce67b0f821b93825530f34483e3229d16"), looks := true }, kinds := [], alts := [], laidByText := true, laidKinds := [.data, .data, .data, .pinned, .data, .data, .data, .pinned, .sentinel, .sentinel], laidTests := true, laidLooks := .later }
def WorldSamplesMatchSpecCardSaid : Prop := Claim7.holds Tryz.pinned (.plain (OpenSpec.ofChange worldSamplesMatchSpecSpec)) worldSamplesMatchSpecCard

/-- THE TIED CARD OF 'dynamometerlaw8.WorldAreaIsTimeSpent'. -/
def worldAreaIsTimeSpentCard : Claim7 := { stood := { row := worldAreaIsTimeSpentRow, standIns := [], harness := (true, "5fd8b883075d090c724f10debf39ed2ce67b0f821b93825530f34483e3229d16"), looks := true }, kinds := [], alts := [], laidByText := true, laidKinds := [.data, .pinned, .data, .data, .data, .pinned, .data, .data, .sentinel, .sentinel], laidTests := true, laidLooks := .later }
def WorldAreaIsTimeSpentCardSaid : Prop := Claim7.holds Tryz.pinned (.plain (OpenSpec.ofChange worldAreaIsTimeSpentSpec)) worldAreaIsTimeSpentCard

/-- THE TIED CARD OF 'dynamometerlaw8.WorldInsideMatchesSpec'. -/
def worldInsideMatchesSpecCard : Claim7 := { stood := { row := worldInsideMatchesSpecRow, standIns := [], harness := (true, "5fd8b883075d090c724f10debf39ed2ce67b0f821b93825530f34483e3229d16"), looks := true }, kinds := [], alts := [], laidByText := true, laidKinds := [.data, .pinned, .data, .data, .data, .pinned, .data, .data, .sentinel, .sentinel], laidTests := true, laidLooks := .later }
def WorldInsideMatchesSpecCardSaid : Prop := Claim7.holds Tryz.pinned (.plain (OpenSpec.ofChange worldInsideMatchesSpecSpec)) worldInsideMatchesSpecCard

/-- THE SECOND FORM's CARD OF 'dynamometerlaw8.WorldLogMatchesSpec'. -/
def worldLogMatchesSpecUptoCard : Claim7 := { stood := { row := worldLogMatchesSpecUptoRow, standIns := [], harness := (true, "5fd8b883075d090c724f10debf39ed2ce67b0f821b93825530f34483e3229d16"), looks := true }, kinds := [], alts := [], laidByText := true, laidKinds := [.data, .pinned, .data, .data, .data, .pinned, .data, .data, .sentinel, .sentinel], laidTests := true, laidLooks := .later }
def WorldLogMatchesSpecUptoCardSaid : Prop := Claim7.holds Tryz.pinned (.plain (OpenSpec.upto worldLogMatchesSpecSpec)) worldLogMatchesSpecUptoCard

/-- THE SECOND FORM's CARD OF 'dynamometerlaw8.WorldSamplesMatchSpec'. -/
def worldSamplesMatchSpecUptoCard : Claim7 := { stood := { row := worldSamplesMatchSpecUptoRow, standIns := [], harness := (true, "5fd8b883075d090c724f10debf39ed2ce67b0f821b93825530f34483e3229d16"), looks := true }, kinds := [], alts := [], laidByText := true, laidKinds := [.data, .data, .data, .pinned, .data, .data, .data, .pinned, .sentinel, .sentinel], laidTests := true, laidLooks := .later }
def WorldSamplesMatchSpecUptoCardSaid : Prop := Claim7.holds Tryz.pinned (.plain (OpenSpec.upto worldSamplesMatchSpecSpec)) worldSamplesMatchSpecUptoCard

/-- THE SECOND FORM's CARD OF 'dynamometerlaw8.WorldAreaIsTimeSpent'. -/
def worldAreaIsTimeSpentUptoCard : Claim7 := { stood := { row := worldAreaIsTimeSpentUptoRow, standIns := [], harness := (true, "5fd8b883075d090c724f10debf39ed2ce67b0f821b93825530f34483e3229d16"), looks := true }, kinds := [], alts := [], laidByText := true, laidKinds := [.data, .pinned, .data, .data, .data, .pinned, .data, .data, .sentinel, .sentinel], laidTests := true, laidLooks := .later }
def WorldAreaIsTimeSpentUptoCardSaid : Prop := Claim7.holds Tryz.pinned (.plain (OpenSpec.upto worldAreaIsTimeSpentSpec)) worldAreaIsTimeSpentUptoCard

/-- THE SECOND FORM's CARD OF 'dynamometerlaw8.WorldInsideMatchesSpec'. -/
def worldInsideMatchesSpecUptoCard : Claim7 := { stood := { row := worldInsideMatchesSpecUptoRow, standIns := [], harness := (true, "5fd8b883075d090c724f10debf39ed2ce67b0f821b93825530f34483e3229d16"), looks := true }, kinds := [], alts := [], laidByText := true, laidKinds := [.data, .pinned, .data, .data, .data, .pinned, .data, .data, .sentinel, .sentinel], laidTests := true, laidLooks := .later }
def WorldInsideMatchesSpecUptoCardSaid : Prop := Claim7.holds Tryz.pinned (.plain (OpenSpec.upto worldInsideMatchesSpecSpec)) worldInsideMatchesSpecUptoCard
end Rows
end Go.Proofs.YtplabpmicdbglaaGreatDoor
