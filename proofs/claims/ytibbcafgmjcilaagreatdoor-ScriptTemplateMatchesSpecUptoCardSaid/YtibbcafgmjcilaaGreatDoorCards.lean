/-
  DERIVED. GIVEN WITH THE SEED: THE CARDS: each row of YtibbcafgmjcilaaGreatDoorRows.lean that lists a variable, with what it lists TIED to the program's text (the seventh form; the later family's looks); each row that meets fmt, with fmt's text TOLD by the authors' own Lean function (tested against real Go, not proved from fmt's source: count such statements apart). THE CARD IS WHAT COUNTS. Prove the row's statement (the work); the ties are given (YtibbcafgmjcilaaGreatDoorTie.lean); close each card by the builder's one call (the guide's Derived/Test/ToyasCard.lean, 'card_holds'). Laid BY PROGRAM, IN A SANDBOX (cutbox-door.mjs). By AI agents, Wed Nov 11 2026. No macro, syntax, notation, axiom, sorry.
-/
import Derived.Test.YtibbcafgmjcilaaGreatDoorRows
import GoSem.ClaimSeven
namespace Go.Proofs.YtibbcafgmjcilaaGreatDoor
namespace Rows

/-- THE TIED CARD OF 'dynamometerlaw6.ScriptCheckMatchesSpec'. -/
def scriptCheckMatchesSpecCard : Claim7 := { stood := { row := scriptCheckMatchesSpecRow, standIns := [], harness := (true, "5efb2889a771ea1a315abb8f867873fac3e42f85a7cc50e11b8145868e93e45f"), looks := true }, kinds := [], alts := [], laidByText := true, laidKinds := [.pinned, .data, .data, .data, .pinned, .sentinel, .sentinel, .data, .data, .data], laidTests := true, laidLooks := .later }
def ScriptCheckMatchesSpecCardSaid : Prop := Claim7.holds Tryz.pinned (.plain (OpenSpec.ofChange scriptCheckMatchesSpecSpec)) scriptCheckMatchesSpecCard

/-- THE TIED CARD OF 'dynamometerlaw6.ScriptRowMatchesSpec'. -/
def scriptRowMatchesSpecCard : Claim7 := { stood := { row := scriptRowMatchesSpecRow, standIns := [], harness := (true, "5efb2889a771ea1a315abb8f867873fac3e42f85a7cc50e11b8145868e93e45f"), looks := true }, kinds := [], alts := [], laidByText := true, laidKinds := [.pinned, .data, .sentinel, .sentinel, .data, .data, .data, .data, .data, .pinned], laidTests := true, laidLooks := .later }
def ScriptRowMatchesSpecCardSaid : Prop := Claim7.holds Tryz.pinned (.plain (OpenSpec.ofChange scriptRowMatchesSpecSpec)) scriptRowMatchesSpecCard

/-- THE TIED CARD OF 'dynamometerlaw6.ScriptTemplateMatchesSpec'. -/
def scriptTemplateMatchesSpecCard : Claim7 := { stood := { row := scriptTemplateMatchesSpecRow, standIns := [], harness := (true, "5efb2889a771ea1a315abb8f867873fac3e42f85a7cc50e11b8145868e93e45f"), looks := true }, kinds := [], alts := [], laidByText := true, laidKinds := [.pinned, .data, .sentinel, .sentinel, .data, .data, .data, .data, .data, .pinned], laidTests := true, laidLooks := .later }
def ScriptTemplateMatchesSpecCardSaid : Prop := Claim7.holds Tryz.pinned (.plain (OpenSpec.ofChange scriptTemplateMatchesSpecSpec)) scriptTemplateMatchesSpecCard

/-- THE SECOND FORM's CARD OF 'dynamometerlaw6.ScriptCheckMatchesSpec'. -/
def scriptCheckMatchesSpecUptoCard : Claim7 := { stood := { row := scriptCheckMatchesSpecUptoRow, standIns := [], harness := (true, "5efb2889a771ea1a315abb8f867873fac3e42f85a7cc50e11b8145868e93e45f"), looks := true }, kinds := [], alts := [], laidByText := true, laidKinds := [.pinned, .data, .data, .data, .pinned, .sentinel, .sentinel, .data, .data, .data], laidTests := true, laidLooks := .later }
def ScriptCheckMatchesSpecUptoCardSaid : Prop := Claim7.holds Tryz.pinned (.plain (OpenSpec.upto scriptCheckMatchesSpecSpec)) scriptCheckMatchesSpecUptoCard

/-- THE SECOND FORM's CARD OF 'dynamometerlaw6.ScriptRowMatchesSpec'. -/
def scriptRowMatchesSpecUptoCard : Claim7 := { stood := { row := scriptRowMatchesSpecUptoRow, standIns := [], harness := (true, "5efb2889a771ea1a315abb8f867873fac3e42f85a7cc50e11b8145868e93e45f"), looks := true }, kinds := [], alts := [], laidByText := true, laidKinds := [.pinned, .data, .sentinel, .sentinel, .data, .data, .data, .data, .data, .pinned], laidTests := true, laidLooks := .later }
def ScriptRowMatchesSpecUptoCardSaid : Prop := Claim7.holds Tryz.pinned (.plain (OpenSpec.upto scriptRowMatchesSpecSpec)) scriptRowMatchesSpecUptoCard

/-- THE SECOND FORM's CARD OF 'dynamometerlaw6.ScriptTemplateMatchesSpec'. -/
def scriptTemplateMatchesSpecUptoCard : Claim7 := { stood := { row := scriptTemplateMatchesSpecUptoRow, standIns := [], harness := (true, "5efb2889a771ea1a315abb8f867873fac3e42f85a7cc50e11b8145868e93e45f"), looks := true }, kinds := [], alts := [], laidByText := true, laidKinds := [.pinned, .data, .sentinel, .sentinel, .data, .data, .data, .data, .data, .pinned], laidTests := true, laidLooks := .later }
def ScriptTemplateMatchesSpecUptoCardSaid : Prop := Claim7.holds Tryz.pinned (.plain (OpenSpec.upto scriptTemplateMatchesSpecSpec)) scriptTemplateMatchesSpecUptoCard
end Rows
end Go.Proofs.YtibbcafgmjcilaaGreatDoor
