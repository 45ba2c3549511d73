/- A part of the proof. -/
import Derived.Test.YtplabpmicdbglaaGreatDoorWa
import Derived.LaidMore
import Derived.Lay
import Derived.ProofKit
import Derived.Stop.Joined
set_option maxRecDepth 1000000
namespace Go.T9
open Go Go.AM Go.FA Go.Proofs Go.Proofs.YtplabpmicdbglaaGreatDoor
theorem layIL3 (os : Os) : (World.holding Proofs.Tryz.prog os ⟨#[], #[], []⟩).layIfaces Proofs.Tryz.prog Rows.worldLogMatchesSpecRow.laid (World.laidAll Proofs.Tryz.prog os Rows.worldLogMatchesSpecRow.laid) = true := layIfaces_of (heapL3 os) yAll_eqL3 (laidAll_eq (heapL3 os) yAll_eqL3) (by kernel_rfl)
end Go.T9
