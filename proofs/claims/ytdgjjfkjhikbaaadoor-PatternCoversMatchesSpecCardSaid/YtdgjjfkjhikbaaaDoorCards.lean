/-
  DERIVED. GIVEN WITH THE SEED: THE CARDS: each row of YtdgjjfkjhikbaaaDoorRows.lean that lists a variable, with what it lists TIED to the program's text (the seventh form; the later family's looks); each row that meets fmt, with fmt's text TOLD by the authors' own Lean function (tested against real Go, not proved from fmt's source: count such statements apart). THE CARD IS WHAT COUNTS. Prove the row's statement (the work); the ties are given (YtdgjjfkjhikbaaaDoorTie.lean); close each card by the builder's one call (the guide's Derived/Test/ToyasCard.lean, 'card_holds'). Laid BY PROGRAM, IN A SANDBOX (cutbox-door.mjs). By AI agents, Wed Nov 11 2026. No macro, syntax, notation, axiom, sorry.
-/
import Derived.Test.YtdgjjfkjhikbaaaDoorRows
import GoSem.ClaimSeven
namespace Go.Proofs.YtdgjjfkjhikbaaaDoor
namespace Rows

/-- THE TIED CARD OF 'dynamometerlaw3.PatternLeastAccepts'. -/
def patternLeastAcceptsCard : Claim7 := { stood := { row := patternLeastAcceptsRow, standIns := [], harness := (true, "52b880b959f99e33f7d2aa9fff233363538bf832e5f8def4c27979812ebc9bd0"), looks := false }, kinds := [], alts := [], laidByText := true, laidKinds := [.data], laidTests := true, laidLooks := .later }
def PatternLeastAcceptsCardSaid : Prop := Claim7.holds Tryd.pinned (.plain (OpenSpec.ofChange patternLeastAcceptsSpec)) patternLeastAcceptsCard

/-- THE TIED CARD OF 'dynamometerlaw3.PatternCoversMatchesSpec'. -/
def patternCoversMatchesSpecCard : Claim7 := { stood := { row := patternCoversMatchesSpecRow, standIns := [], harness := (true, "52b880b959f99e33f7d2aa9fff233363538bf832e5f8def4c27979812ebc9bd0"), looks := false }, kinds := [], alts := [], laidByText := true, laidKinds := [.data], laidTests := true, laidLooks := .later }
def PatternCoversMatchesSpecCardSaid : Prop := Claim7.holds Tryd.pinned (.plain (OpenSpec.ofChange patternCoversMatchesSpecSpec)) patternCoversMatchesSpecCard

/-- THE TIED CARD OF 'dynamometerlaw3.PatternNthIsOrdered'. -/
def patternNthIsOrderedCard : Claim7 := { stood := { row := patternNthIsOrderedRow, standIns := [], harness := (true, "52b880b959f99e33f7d2aa9fff233363538bf832e5f8def4c27979812ebc9bd0"), looks := false }, kinds := [], alts := [], laidByText := true, laidKinds := [.data], laidTests := true, laidLooks := .later }
def PatternNthIsOrderedCardSaid : Prop := Claim7.holds Tryd.pinned (.plain (OpenSpec.ofChange patternNthIsOrderedSpec)) patternNthIsOrderedCard

/-- THE SECOND FORM's CARD OF 'dynamometerlaw3.PatternLeastAccepts'. -/
def patternLeastAcceptsUptoCard : Claim7 := { stood := { row := patternLeastAcceptsUptoRow, standIns := [], harness := (true, "52b880b959f99e33f7d2aa9fff233363538bf832e5f8def4c27979812ebc9bd0"), looks := false }, kinds := [], alts := [], laidByText := true, laidKinds := [.data], laidTests := true, laidLooks := .later }
def PatternLeastAcceptsUptoCardSaid : Prop := Claim7.holds Tryd.pinned (.plain (OpenSpec.upto patternLeastAcceptsSpec)) patternLeastAcceptsUptoCard

/-- THE SECOND FORM's CARD OF 'dynamometerlaw3.PatternCoversMatchesSpec'. -/
def patternCoversMatchesSpecUptoCard : Claim7 := { stood := { row := patternCoversMatchesSpecUptoRow, standIns := [], harness := (true, "52b880b959f99e33f7d2aa9fff233363538bf832e5f8def4c27979812ebc9bd0"), looks := false }, kinds := [], alts := [], laidByText := true, laidKinds := [.data], laidTests := true, laidLooks := .later }
def PatternCoversMatchesSpecUptoCardSaid : Prop := Claim7.holds Tryd.pinned (.plain (OpenSpec.upto patternCoversMatchesSpecSpec)) patternCoversMatchesSpecUptoCard

/-- THE SECOND FORM's CARD OF 'dynamometerlaw3.PatternNthIsOrdered'. -/
def patternNthIsOrderedUptoCard : Claim7 := { stood := { row := patternNthIsOrderedUptoRow, standIns := [], harness := (true, "52b880b959f99e33f7d2aa9fff233363538bf832e5f8def4c27979812ebc9bd0"), looks := false }, kinds := [], alts := [], laidByText := true, laidKinds := [.data], laidTests := true, laidLooks := .later }
def PatternNthIsOrderedUptoCardSaid : Prop := Claim7.holds Tryd.pinned (.plain (OpenSpec.upto patternNthIsOrderedSpec)) patternNthIsOrderedUptoCard
end Rows
end Go.Proofs.YtdgjjfkjhikbaaaDoor
