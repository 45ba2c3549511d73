/- A part of the proof. -/
import Derived.Test.YtibbcafgmjcilaaGreatDoorWa
import Derived.LaidMore
import Derived.Lay
import Derived.ProofKit
import Derived.Stop.Joined
set_option maxRecDepth 1000000
namespace Go.T9
open Go Go.AM Go.FA Go.Proofs Go.Proofs.YtibbcafgmjcilaaGreatDoor
theorem layFL4 (os : Os) : (World.holding Proofs.Tryz.prog os ⟨#[], #[], []⟩).layFits Proofs.Tryz.prog Rows.scriptRowMatchesSpecRow.laid [] = true := layFits_of (heapL4 os) yAll_eqL4 (by kernel_rfl)
end Go.T9
