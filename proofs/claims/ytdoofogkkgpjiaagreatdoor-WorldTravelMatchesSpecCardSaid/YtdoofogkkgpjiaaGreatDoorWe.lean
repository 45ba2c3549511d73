/- A part of the proof. -/
import Derived.Test.YtdoofogkkgpjiaaGreatDoorWa
import Derived.LaidMore
import Derived.Lay
import Derived.ProofKit
import Derived.Stop.Joined
set_option maxRecDepth 1000000
namespace Go.T8
open Go Go.AM Go.FA Go.Proofs Go.Proofs.YtdoofogkkgpjiaaGreatDoor
theorem layI (os : Os) : (World.holding Tryz.prog os ⟨#[], #[], []⟩).layIfaces Tryz.prog Rows.worldTravelMatchesSpecRow.laid (World.laidAll Tryz.prog os Rows.worldTravelMatchesSpecRow.laid) = true := layIfaces_of (heap0 os) yAll_eq (laidAll_eq (heap0 os) yAll_eq) (by kernel_rfl)
end Go.T8
