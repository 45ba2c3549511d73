/- A part of the proof. -/
import Derived.Test.YtdoofogkkgpjiaaGreatDoorWa
import Derived.LaidMore
import Derived.Lay
import Derived.ProofKit
import Derived.Stop.Joined
set_option maxRecDepth 1000000
namespace Go.T8
open Go Go.AM Go.FA Go.Proofs Go.Proofs.YtdoofogkkgpjiaaGreatDoor
theorem layF (os : Os) : (World.holding Tryz.prog os ⟨#[], #[], []⟩).layFits Tryz.prog Rows.worldTravelMatchesSpecRow.laid [] = true := layFits_of (heap0 os) yAll_eq (by kernel_rfl)
end Go.T8
