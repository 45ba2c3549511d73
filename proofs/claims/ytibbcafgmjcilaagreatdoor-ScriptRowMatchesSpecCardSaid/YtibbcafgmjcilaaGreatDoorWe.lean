/- A part of the proof. -/
import Derived.Test.YtibbcafgmjcilaaGreatDoorWa
import Derived.LaidMore
import Derived.Lay
import Derived.ProofKit
import Derived.Stop.Joined
set_option maxRecDepth 1000000
namespace Go.T9
open Go Go.AM Go.FA Go.Proofs Go.Proofs.YtibbcafgmjcilaaGreatDoor
theorem layIL4 (os : Os) : (World.holding Proofs.Tryz.prog os ⟨#[], #[], []⟩).layIfaces Proofs.Tryz.prog Rows.scriptRowMatchesSpecRow.laid (World.laidAll Proofs.Tryz.prog os Rows.scriptRowMatchesSpecRow.laid) = true := layIfaces_of (heapL4 os) yAll_eqL4 (laidAll_eq (heapL4 os) yAll_eqL4) (by kernel_rfl)
end Go.T9
