/-
  DERIVED. GIVEN WITH THE SEED: THE CARDS: each row of YthnclaleojkecaaGreatDoorRows.lean that lists a variable, with what it lists TIED to the program's text (the seventh form; the later family's looks); each row that meets fmt, with fmt's text TOLD by the authors' own Lean function (tested against real Go, not proved from fmt's source: count such statements apart). THE CARD IS WHAT COUNTS. Prove the row's statement (the work); the ties are given (YthnclaleojkecaaGreatDoorTie.lean); close each card by the builder's one call (the guide's Derived/Test/ToyasCard.lean, 'card_holds'). Laid BY PROGRAM, IN A SANDBOX (cutbox-door.mjs). By AI agents, Wed Nov 11 2026. No macro, syntax, notation, axiom, sorry.
-/
import Derived.Test.YthnclaleojkecaaGreatDoorRows
import GoSem.ClaimSeven
namespace Go.Proofs.YthnclaleojkecaaGreatDoor
namespace Rows

/-- THE TIED CARD OF 'dynamometerlaw3.PatternReduceMatchesSpec'. -/
def patternReduceMatchesSpecCard : Claim7 := { stood := { row := patternReduceMatchesSpecRow, standIns := [], harness := (true, "cb475698a4c70397d61531a565717bc5edcba765dac9e675b2be5869caeaadb2"), looks := false }, kinds := [], alts := [], laidByText := true, laidKinds := [.data, .data, .data], laidTests := true, laidLooks := .later }
def PatternReduceMatchesSpecCardSaid : Prop := Claim7.holds Tryz.pinned (.plain (OpenSpec.ofChange patternReduceMatchesSpecSpec)) patternReduceMatchesSpecCard

/-- THE TIED CARD OF 'dynamometerlaw3.PatternAfterMatchesSpec'. -/
def patternAfterMatchesSpecCard : Claim7 := { stood := { row := patternAfterMatchesSpecRow, standIns := [], harness := (true, "cb475698a4c70397d61531a565717bc5edcba765dac9e675b2be5869caeaadb2"), looks := false }, kinds := [], alts := [], laidByText := true, laidKinds := [.data, .data, .data], laidTests := true, laidLooks := .later }
def PatternAfterMatchesSpecCardSaid : Prop := Claim7.holds Tryz.pinned (.plain (OpenSpec.ofChange patternAfterMatchesSpecSpec)) patternAfterMatchesSpecCard

/-- THE SECOND FORM's CARD OF 'dynamometerlaw3.PatternReduceMatchesSpec'. -/
def patternReduceMatchesSpecUptoCard : Claim7 := { stood := { row := patternReduceMatchesSpecUptoRow, standIns := [], harness := (true, "cb475698a4c70397d61531a565717bc5edcba765dac9e675b2be5869caeaadb2"), looks := false }, kinds := [], alts := [], laidByText := true, laidKinds := [.data, .data, .data], laidTests := true, laidLooks := .later }
def PatternReduceMatchesSpecUptoCardSaid : Prop := Claim7.holds Tryz.pinned (.plain (OpenSpec.upto patternReduceMatchesSpecSpec)) patternReduceMatchesSpecUptoCard

/-- THE SECOND FORM's CARD OF 'dynamometerlaw3.PatternAfterMatchesSpec'. -/
def patternAfterMatchesSpecUptoCard : Claim7 := { stood := { row := patternAfterMatchesSpecUptoRow, standIns := [], harness := (true, "cb475698a4c70397d61531a565717bc5edcba765dac9e675b2be5869caeaadb2"), looks := false }, kinds := [], alts := [], laidByText := true, laidKinds := [.data, .data, .data], laidTests := true, laidLooks := .later }
def PatternAfterMatchesSpecUptoCardSaid : Prop := Claim7.holds Tryz.pinned (.plain (OpenSpec.upto patternAfterMatchesSpecSpec)) patternAfterMatchesSpecUptoCard
end Rows
end Go.Proofs.YthnclaleojkecaaGreatDoor
