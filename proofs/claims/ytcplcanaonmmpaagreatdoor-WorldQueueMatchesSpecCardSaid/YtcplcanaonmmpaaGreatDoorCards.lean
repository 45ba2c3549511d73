/-
  DERIVED. GIVEN WITH THE SEED: THE CARDS: each row of YtcplcanaonmmpaaGreatDoorRows.lean that lists a variable, with what it lists TIED to the program's text (the seventh form; the later family's looks); each row that meets fmt, with fmt's text TOLD by the authors' own Lean function (tested against real Go, not proved from fmt's source: count such statements apart). THE CARD IS WHAT COUNTS. Prove the row's statement (the work); the ties are given (YtcplcanaonmmpaaGreatDoorTie.lean); close each card by the builder's one call (the guide's Derived/Test/ToyasCard.lean, 'card_holds'). Laid BY PROGRAM, IN A SANDBOX (cutbox-door.mjs). By AI agents, Wed Nov 11 2026. No macro, syntax, notation, axiom, sorry.
-/
import Derived.Test.YtcplcanaonmmpaaGreatDoorRows
import GoSem.ClaimSeven
namespace Go.Proofs.YtcplcanaonmmpaaGreatDoor
namespace Rows

/-- THE TIED CARD OF 'dynamometerlaw8.WorldBreakerMatchesSpec'. -/
def worldBreakerMatchesSpecCard : Claim7 := { stood := { row := worldBreakerMatchesSpecRow, standIns := [], harness := (true, "816d973a6e4ffcd795813e8eee29f166d90194abde9af9386f293ba4f068b51f"), looks := true }, kinds := [], alts := [], laidByText := true, laidKinds := [.data, .pinned, .data, .data, .data, .pinned, .data, .data, .sentinel, .sentinel], laidTests := true, laidLooks := .later }
def WorldBreakerMatchesSpecCardSaid : Prop := Claim7.holds Tryz.pinned (.plain (OpenSpec.ofChange worldBreakerMatchesSpecSpec)) worldBreakerMatchesSpecCard

/-- THE TIED CARD OF 'dynamometerlaw8.WorldTroubleMatchesSpec'. -/
def worldTroubleMatchesSpecCard : Claim7 := { stood := { row := worldTroubleMatchesSpecRow, standIns := [], harness := (true, "816d973a6e4ffcd795813e8eee29f166d90194abde9af9386f293ba4f068b51f"), looks := true }, kinds := [], alts := [], laidByText := true, laidKinds := [.data, .pinned, .data, .data, .data, .pinned, .data, .data, .sentinel, .sentinel], laidTests := true, laidLooks := .later }
def WorldTroubleMatchesSpecCardSaid : Prop := Claim7.holds Tryz.pinned (.plain (OpenSpec.ofChange worldTroubleMatchesSpecSpec)) worldTroubleMatchesSpecCard

/-- THE TIED CARD OF 'dynamometerlaw8.WorldAreaMatchesSpec'. -/
def worldAreaMatchesSpecCard : Claim7 := { stood := { row := worldAreaMatchesSpecRow, standIns := [], harness := (true, "816d973a6e4ffcd795813e8eee29f166d90194abde9af9386f293ba4f068b51f"), looks := true }, kinds := [], alts := [], laidByText := true, laidKinds := [.data, .pinned, .data, .data, .data, .pinned, .data, .data, .sentinel, .sentinel], laidTests := true, laidLooks := .later }
def WorldAreaMatchesSpecCardSaid : Prop := Claim7.holds Tryz.pinned (.plain (OpenSpec.ofChange worldAreaMatchesSpecSpec)) worldAreaMatchesSpecCard

/-- THE TIED CARD OF 'dynamometerlaw8.WorldPolicyMatchesSpec'. -/
def worldPolicyMatchesSpecCard : Claim7 := { stood := { row := worldPolicyMatchesSpecRow, standIns := [], harness := (true, "816d973a6e4ffcd795813e8eee29f166d90194abde9af9386f293ba4f068b51f"), looks := true }, kinds := [], alts := [], laidByText := true, laidKinds := [.data, .pinned, .data, .data, .data, .pinned, .data, .data, .sentinel, .sentinel], laidTests := true, laidLooks := .later }
def WorldPolicyMatchesSpecCardSaid : Prop := Claim7.holds Tryz.pinned (.plain (OpenSpec.ofChange worldPolicyMatchesSpecSpec)) worldPolicyMatchesSpecCard

/-- THE TIED CARD OF 'dynamometerlaw8.WorldQueueKeepsItsLimits'. -/
def worldQueueKeepsItsLimitsCard : Claim7 := { stood := { row := worldQueueKeepsItsLimitsRow, standIns := [], harness := (true, "816d973a6e4ffcd795813e8eee29f166d90194abde9af9386f293ba4f068b51f"), looks := true }, kinds := [], alts := [], laidByText := true, laidKinds := [.data, .pinned, .data, .data, .data, .pinned, .data, .data, .sentinel, .sentinel], laidTests := true, laidLooks := .later }
def WorldQueueKeepsItsLimitsCardSaid : Prop := Claim7.holds Tryz.pinned (.plain (OpenSpec.ofChange worldQueueKeepsItsLimitsSpec)) worldQueueKeepsItsLimitsCard

/-- THE TIED CARD OF 'dynamometerlaw8.WorldQueueMatchesSpec'. -/
def worldQueueMatchesSpecCard : Claim7 := { stood := { row := worldQueueMatchesSpecRow, standIns := [], harness := (true, "816d973a6e4ffcd795813e8eee29f166d90194abde9af9386f293ba4f068b51f"), looks := true }, kinds := [], alts := [], laidByText := true, laidKinds := [.data, .pinned, .data, .data, .data, .pinned, .data, .data, .sentinel, .sentinel], laidTests := true, laidLooks := .later }
def WorldQueueMatchesSpecCardSaid : Prop := Claim7.holds Tryz.pinned (.plain (OpenSpec.ofChange worldQueueMatchesSpecSpec)) worldQueueMatchesSpecCard

/-- THE TIED CARD OF 'dynamometerlaw8.WorldLogMatchesSpec'. -/
def worldLogMatchesSpecCard : Claim7 := { stood := { row := worldLogMatchesSpecRow, standIns := [], harness := (true, "816d973a6e4ffcd795813e8eee29f166d90194abde9af9386f293ba4f068b51f"), looks := true }, kinds := [], alts := [], laidByText := true, laidKinds := [.data, .pinned, .data, .data, .data, .pinned, .data, .data, .sentinel, .sentinel], laidTests := true, laidLooks := .later }
def WorldLogMatchesSpecCardSaid : Prop := Claim7.holds Tryz.pinned (.plain (OpenSpec.ofChange worldLogMatchesSpecSpec)) worldLogMatchesSpecCard

/-- THE SECOND FORM's CARD OF 'dynamometerlaw8.WorldBreakerMatchesSpec'. -/
def worldBreakerMatchesSpecUptoCard : Claim7 := { stood := { row := worldBreakerMatchesSpecUptoRow, standIns := [], harness := (true, "816d973a6e4ffcd795813e8eee29f166d90194abde9af9386f293ba4f068b51f"), looks := true }, kinds := [], alts := [], laidByText := true, laidKinds := [.data, .pinned, .data, .data, .data, .pinned, .data, .data, .sentinel, .sentinel], laidTests := true, laidLooks := .later }
def WorldBreakerMatchesSpecUptoCardSaid : Prop := Claim7.holds Tryz.pinned (.plain (OpenSpec.upto worldBreakerMatchesSpecSpec)) worldBreakerMatchesSpecUptoCard

/-- THE SECOND FORM's CARD OF 'dynamometerlaw8.WorldTroubleMatchesSpec'. -/
def worldTroubleMatchesSpecUptoCard : Claim7 := { stood := { row := worldTroubleMatchesSpecUptoRow, standIns := [], harness := (true, "816d973a6e4ffcd795813e8eee29f166d90194abde9af9386f293ba4f068b51f"), looks := true }, kinds := [], alts := [], laidByText := true, laidKinds := [.data, .pinned, .data, .data, .data, .pinned, .data, .data, .sentinel, .sentinel], laidTests := true, laidLooks := .later }
def WorldTroubleMatchesSpecUptoCardSaid : Prop := Claim7.holds Tryz.pinned (.plain (OpenSpec.upto worldTroubleMatchesSpecSpec)) worldTroubleMatchesSpecUptoCard

/-- THE SECOND FORM's CARD OF 'dynamometerlaw8.WorldAreaMatchesSpec'. -/
def worldAreaMatchesSpecUptoCard : Claim7 := { stood := { row := worldAreaMatchesSpecUptoRow, standIns := [], harness := (true, "816d973a6e4ffcd795813e8eee29f166d90194abde9af9386f293ba4f068b51f"), looks := true }, kinds := [], alts := [], laidByText := true, laidKinds := [.data, .pinned, .data, .data, .data, .pinned, .data, .data, .sentinel, .sentinel], laidTests := true, laidLooks := .later }
def WorldAreaMatchesSpecUptoCardSaid : Prop := Claim7.holds Tryz.pinned (.plain (OpenSpec.upto worldAreaMatchesSpecSpec)) worldAreaMatchesSpecUptoCard

/-- THE SECOND FORM's CARD OF 'dynamometerlaw8.WorldPolicyMatchesSpec'. -/
def worldPolicyMatchesSpecUptoCard : Claim7 := { stood := { row := worldPolicyMatchesSpecUptoRow, standIns := [], harness := (true, "816d973a6e4ffcd795813e8eee29f166d90194abde9af9386f293ba4f068b51f"), looks := true }, kinds := [], alts := [], laidByText := true, laidKinds := [.data, .pinned, .data, .data, .data, .pinned, .data, .data, .sentinel, .sentinel], laidTests := true, laidLooks := .later }
def WorldPolicyMatchesSpecUptoCardSaid : Prop := Claim7.holds Tryz.pinned (.plain (OpenSpec.upto worldPolicyMatchesSpecSpec)) worldPolicyMatchesSpecUptoCard

/-- THE SECOND FORM's CARD OF 'dynamometerlaw8.WorldQueueKeepsItsLimits'. -/
def worldQueueKeepsItsLimitsUptoCard : Claim7 := { stood := { row := worldQueueKeepsItsLimitsUptoRow, standIns := [], harness := (true, "816d973a6e4ffcd795813e8eee29f166d90194abde9af9386f293ba4f068b51f"), looks := true }, kinds := [], alts := [], laidByText := true, laidKinds := [.data, .pinned, .data, .data, .data, .pinned, .data, .data, .sentinel, .sentinel], laidTests := true, laidLooks := .later }
def WorldQueueKeepsItsLimitsUptoCardSaid : Prop := Claim7.holds Tryz.pinned (.plain (OpenSpec.upto worldQueueKeepsItsLimitsSpec)) worldQueueKeepsItsLimitsUptoCard

/-- THE SECOND FORM's CARD OF 'dynamometerlaw8.WorldQueueMatchesSpec'. -/
def worldQueueMatchesSpecUptoCard : Claim7 := { stood := { row := worldQueueMatchesSpecUptoRow, standIns := [], harness := (true, "816d973a6e4ffcd795813e8eee29f166d90194abde9af9386f293ba4f068b51f"), looks := true }, kinds := [], alts := [], laidByText := true, laidKinds := [.data, .pinned, .data, .data, .data, .pinned, .data, .data, .sentinel, .sentinel], laidTests := true, laidLooks := .later }
def WorldQueueMatchesSpecUptoCardSaid : Prop := Claim7.holds Tryz.pinned (.plain (OpenSpec.upto worldQueueMatchesSpecSpec)) worldQueueMatchesSpecUptoCard

/-- THE SECOND FORM's CARD OF 'dynamometerlaw8.WorldLogMatchesSpec'. -/
def worldLogMatchesSpecUptoCard : Claim7 := { stood := { row := worldLogMatchesSpecUptoRow, standIns := [], harness := (true, "816d973a6e4ffcd795813e8eee29f166d90194abde9af9386f293ba4f068b51f"), looks := true }, kinds := [], alts := [], laidByText := true, laidKinds := [.data, .pinned, .data, .data, .data, .pinned, .data, .data, .sentinel, .sentinel], laidTests := true, laidLooks := .later }
def WorldLogMatchesSpecUptoCardSaid : Prop := Claim7.holds Tryz.pinned (.plain (OpenSpec.upto worldLogMatchesSpecSpec)) worldLogMatchesSpecUptoCard
end Rows
end Go.Proofs.YtcplcanaonmmpaaGreatDoor
