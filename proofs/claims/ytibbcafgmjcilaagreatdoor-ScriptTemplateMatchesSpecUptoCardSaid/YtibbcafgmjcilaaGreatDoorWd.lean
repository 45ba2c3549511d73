/- A part of the proof. -/
import Derived.Test.YtibbcafgmjcilaaGreatDoorWa
import Derived.LaidMore
import Derived.Lay
import Derived.ProofKit
import Derived.Stop.Joined
set_option maxRecDepth 1000000
namespace Go.T9
open Go Go.AM Go.FA Go.Proofs Go.Proofs.YtibbcafgmjcilaaGreatDoor
theorem layFL5 (os : Os) : (World.holding Proofs.Tryz.prog os ⟨#[], #[], []⟩).layFits Proofs.Tryz.prog Rows.scriptTemplateMatchesSpecUptoRow.laid [] = true := layFits_of (heapL5 os) yAll_eqL5 (by kernel_rfl)
end Go.T9
