/-
  DERIVED. GIVEN WITH THE SEED: THE CARDS: each row of YtegefclhhjbfhaaGreatDoorRows.lean that lists a variable, with what it lists TIED to the program's text (the seventh form; the later family's looks); each row that meets fmt, with fmt's text TOLD by the authors' own Lean function (tested against real Go, not proved from fmt's source: count such statements apart). THE CARD IS WHAT COUNTS. Prove the row's statement (the work); the ties are given (YtegefclhhjbfhaaGreatDoorTie.lean); close each card by the builder's one call (the guide's Derived/Test/ToyasCard.lean, 'card_holds'). Laid BY PROGRAM, IN A SANDBOX (cutbox-door.mjs). By AI agents, Wed Nov 11 2026. No macro, syntax, notation, axiom, sorry.
-/
import Derived.Test.YtegefclhhjbfhaaGreatDoorRows
import GoSem.ClaimSeven
namespace Go.Proofs.YtegefclhhjbfhaaGreatDoor
namespace Rows

/-- THE TIED CARD OF 'dynamometerlaw3.PatternCombinedMatchSpec'. -/
def patternCombinedMatchSpecCard : Claim7 := { stood := { row := patternCombinedMatchSpecRow, standIns := [], harness := (true, "df498e3dff332095e5a10a14f28d2ca29d66cbd94987921dfc8a3b6853cb20d0"), looks := false }, kinds := [], alts := [], laidByText := true, laidKinds := [.data, .data, .data], laidTests := true, laidLooks := .later }
def PatternCombinedMatchSpecCardSaid : Prop := Claim7.holds Tryz.pinned (.plain (OpenSpec.ofChange patternCombinedMatchSpecSpec)) patternCombinedMatchSpecCard

/-- THE TIED CARD OF 'dynamometerlaw3.PatternAlgebra'. -/
def patternAlgebraCard : Claim7 := { stood := { row := patternAlgebraRow, standIns := [], harness := (true, "df498e3dff332095e5a10a14f28d2ca29d66cbd94987921dfc8a3b6853cb20d0"), looks := false }, kinds := [], alts := [], laidByText := true, laidKinds := [.data, .data, .data], laidTests := true, laidLooks := .later }
def PatternAlgebraCardSaid : Prop := Claim7.holds Tryz.pinned (.plain (OpenSpec.ofChange patternAlgebraSpec)) patternAlgebraCard

/-- THE SECOND FORM's CARD OF 'dynamometerlaw3.PatternCombinedMatchSpec'. -/
def patternCombinedMatchSpecUptoCard : Claim7 := { stood := { row := patternCombinedMatchSpecUptoRow, standIns := [], harness := (true, "df498e3dff332095e5a10a14f28d2ca29d66cbd94987921dfc8a3b6853cb20d0"), looks := false }, kinds := [], alts := [], laidByText := true, laidKinds := [.data, .data, .data], laidTests := true, laidLooks := .later }
def PatternCombinedMatchSpecUptoCardSaid : Prop := Claim7.holds Tryz.pinned (.plain (OpenSpec.upto patternCombinedMatchSpecSpec)) patternCombinedMatchSpecUptoCard

/-- THE SECOND FORM's CARD OF 'dynamometerlaw3.PatternAlgebra'. -/
def patternAlgebraUptoCard : Claim7 := { stood := { row := patternAlgebraUptoRow, standIns := [], harness := (true, "df498e3dff332095e5a10a14f28d2ca29d66cbd94987921dfc8a3b6853cb20d0"), looks := false }, kinds := [], alts := [], laidByText := true, laidKinds := [.data, .data, .data], laidTests := true, laidLooks := .later }
def PatternAlgebraUptoCardSaid : Prop := Claim7.holds Tryz.pinned (.plain (OpenSpec.upto patternAlgebraSpec)) patternAlgebraUptoCard
end Rows
end Go.Proofs.YtegefclhhjbfhaaGreatDoor
