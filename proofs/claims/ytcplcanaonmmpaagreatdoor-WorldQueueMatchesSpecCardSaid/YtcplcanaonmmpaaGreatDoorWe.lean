/- A part of the proof. -/
import Derived.Test.YtcplcanaonmmpaaGreatDoorWa
import Derived.LaidMore
import Derived.Lay
import Derived.ProofKit
import Derived.Stop.Joined
set_option linter.unusedVariables false
set_option linter.unusedSimpArgs false
set_option maxRecDepth 1000000
namespace Go.T9
open Go Go.AM Go.FA Go.Proofs Go.Proofs.YtcplcanaonmmpaaGreatDoor
theorem layIL7 (os : Os) : (World.holding Proofs.Tryz.prog os ⟨#[], #[], []⟩).layIfaces Proofs.Tryz.prog Rows.worldQueueKeepsItsLimitsRow.laid (World.laidAll Proofs.Tryz.prog os Rows.worldQueueKeepsItsLimitsRow.laid) = true := layIfaces_of (heapL7 os) yAll_eqL7 (laidAll_eq (heapL7 os) yAll_eqL7) (by kernel_rfl)
end Go.T9
