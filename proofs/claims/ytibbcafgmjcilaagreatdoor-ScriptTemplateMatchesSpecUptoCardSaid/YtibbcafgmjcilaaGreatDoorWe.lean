/- A part of the proof. -/
import Derived.Test.YtibbcafgmjcilaaGreatDoorWa
import Derived.LaidMore
import Derived.Lay
import Derived.ProofKit
import Derived.Stop.Joined
set_option maxRecDepth 1000000
namespace Go.T9
open Go Go.AM Go.FA Go.Proofs Go.Proofs.YtibbcafgmjcilaaGreatDoor
theorem layIL5 (os : Os) : (World.holding Proofs.Tryz.prog os ⟨#[], #[], []⟩).layIfaces Proofs.Tryz.prog Rows.scriptTemplateMatchesSpecUptoRow.laid (World.laidAll Proofs.Tryz.prog os Rows.scriptTemplateMatchesSpecUptoRow.laid) = true := layIfaces_of (heapL5 os) yAll_eqL5 (laidAll_eq (heapL5 os) yAll_eqL5) (by kernel_rfl)
end Go.T9
