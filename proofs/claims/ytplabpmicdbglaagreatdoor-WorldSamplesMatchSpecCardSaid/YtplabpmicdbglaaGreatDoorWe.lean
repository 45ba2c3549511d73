/- A part of the proof. -/
import Derived.Test.YtplabpmicdbglaaGreatDoorWa
import Derived.LaidMore
import Derived.Lay
import Derived.ProofKit
import Derived.Stop.Joined
set_option maxRecDepth 1000000
namespace Go.T9
open Go Go.AM Go.FA Go.Proofs Go.Proofs.YtplabpmicdbglaaGreatDoor
theorem layIL4 (os : Os) : (World.holding Proofs.Tryz.prog os ⟨#[], #[], []⟩).layIfaces Proofs.Tryz.prog Rows.worldSamplesMatchSpecRow.laid (World.laidAll Proofs.Tryz.prog os Rows.worldSamplesMatchSpecRow.laid) = true := layIfaces_of (heapL4 os) yAll_eqL4 (laidAll_eq (heapL4 os) yAll_eqL4) (by kernel_rfl)
end Go.T9
