/-
  DERIVED. GIVEN WITH THE SEED: THE CARDS: each row of YtgbjgffiejlooaaGreatDoorRows.lean that lists a variable, with what it lists TIED to the program's text (the seventh form; the later family's looks); each row that meets fmt, with fmt's text TOLD by the authors' own Lean function (tested against real Go, not proved from fmt's source: count such statements apart). THE CARD IS WHAT COUNTS. Prove the row's statement (the work); the ties are given (YtgbjgffiejlooaaGreatDoorTie.lean); close each card by the builder's one call (the guide's Derived/Test/ToyasCard.lean, 'card_holds'). Laid BY PROGRAM, IN A SANDBOX (cutbox-door.mjs). By AI agents, Wed Nov 11 2026. No macro, syntax, notation, axiom, sorry.
-/
import Derived.Test.YtgbjgffiejlooaaGreatDoorRows
import GoSem.ClaimSeven
namespace Go.Proofs.YtgbjgffiejlooaaGreatDoor
namespace Rows

/-- THE TIED CARD OF 'dynamometerlaw6.ScriptCheckMatchesSpec'. -/
def scriptCheckMatchesSpecCard : Claim7 := { stood := { row := scriptCheckMatchesSpecRow, standIns := [], harness := (true, "d1d7290f034107591a55ef555e63044db8b2d6b048bc2a2da188b196c50f3b4c"), looks := true }, kinds := [], alts := [], laidByText := true, laidKinds := [.pinned, .data, .data, .data, .pinned, .sentinel, .sentinel, .data, .data, .data], laidTests := true, laidLooks := .later }
def ScriptCheckMatchesSpecCardSaid : Prop := Claim7.holds Tryz.pinned (.plain (OpenSpec.ofChange scriptCheckMatchesSpecSpec)) scriptCheckMatchesSpecCard

/-- THE TIED CARD OF 'dynamometerlaw6.ScriptAsksMatchSpec'. -/
def scriptAsksMatchSpecCard : Claim7 := { stood := { row := scriptAsksMatchSpecRow, standIns := [], harness := (true, "d1d7290f034107591a55ef555e63044db8b2d6b048bc2a2da188b196c50f3b4c"), looks := true }, kinds := [], alts := [], laidByText := true, laidKinds := [.pinned, .data, .data, .data, .pinned, .sentinel, .sentinel, .data, .data, .data], laidTests := true, laidLooks := .later }
def ScriptAsksMatchSpecCardSaid : Prop := Claim7.holds Tryz.pinned (.plain (OpenSpec.ofChange scriptAsksMatchSpecSpec)) scriptAsksMatchSpecCard

/-- THE TIED CARD OF 'dynamometerlaw6.ScriptUnsetMatchesSpec'. -/
def scriptUnsetMatchesSpecCard : Claim7 := { stood := { row := scriptUnsetMatchesSpecRow, standIns := [], harness := (true, "d1d7290f034107591a55ef555e63044db8b2d6b048bc2a2da188b196c50f3b4c"), looks := true }, kinds := [], alts := [], laidByText := true, laidKinds := [.pinned, .data, .data, .data, .pinned, .sentinel, .sentinel, .data, .data, .data], laidTests := true, laidLooks := .later }
def ScriptUnsetMatchesSpecCardSaid : Prop := Claim7.holds Tryz.pinned (.plain (OpenSpec.ofChange scriptUnsetMatchesSpecSpec)) scriptUnsetMatchesSpecCard

/-- THE SECOND FORM's CARD OF 'dynamometerlaw6.ScriptCheckMatchesSpec'. -/
def scriptCheckMatchesSpecUptoCard : Claim7 := { stood := { row := scriptCheckMatchesSpecUptoRow, standIns := [], harness := (true, "d1d7290f034107591a55ef555e63044db8b2d6b048bc2a2da188b196c50f3b4c"), looks := true }, kinds := [], alts := [], laidByText := true, laidKinds := [.pinned, .data, .data, .data, .pinned, .sentinel, .sentinel, .data, .data, .data], laidTests := true, laidLooks := .later }
def ScriptCheckMatchesSpecUptoCardSaid : Prop := Claim7.holds Tryz.pinned (.plain (OpenSpec.upto scriptCheckMatchesSpecSpec)) scriptCheckMatchesSpecUptoCard

/-- THE SECOND FORM's CARD OF 'dynamometerlaw6.ScriptAsksMatchSpec'. -/
def scriptAsksMatchSpecUptoCard : Claim7 := { stood := { row := scriptAsksMatchSpecUptoRow, standIns := [], harness := (true, "d1d7290f034107591a55ef555e63044db8b2d6b048bc2a2da188b196c50f3b4c"), looks := true }, kinds := [], alts := [], laidByText := true, laidKinds := [.pinned, .data, .data, .data, .pinned, .sentinel, .sentinel, .data, .data, .data], laidTests := true, laidLooks := .later }
def ScriptAsksMatchSpecUptoCardSaid : Prop := Claim7.holds Tryz.pinned (.plain (OpenSpec.upto scriptAsksMatchSpecSpec)) scriptAsksMatchSpecUptoCard

/-- THE SECOND FORM's CARD OF 'dynamometerlaw6.ScriptUnsetMatchesSpec'. -/
def scriptUnsetMatchesSpecUptoCard : Claim7 := { stood := { row := scriptUnsetMatchesSpecUptoRow, standIns := [], harness := (true, "d1d7290f034107591a55ef555e63044db8b2d6b048bc2a2da188b196c50f3b4c"), looks := true }, kinds := [], alts := [], laidByText := true, laidKinds := [.pinned, .data, .data, .data, .pinned, .sentinel, .sentinel, .data, .data, .data], laidTests := true, laidLooks := .later }
def ScriptUnsetMatchesSpecUptoCardSaid : Prop := Claim7.holds Tryz.pinned (.plain (OpenSpec.upto scriptUnsetMatchesSpecSpec)) scriptUnsetMatchesSpecUptoCard
end Rows
end Go.Proofs.YtgbjgffiejlooaaGreatDoor
