/- A part of the proof. -/
import Derived.Test.YtdoofogkkgpjiaaGreatDoorWa
import Derived.LaidMore
import Derived.Lay
import Derived.ProofKit
import Derived.Stop.Joined
set_option maxRecDepth 1000000
namespace Go.T8
open Go Go.AM Go.FA Go.Proofs Go.Proofs.YtdoofogkkgpjiaaGreatDoor
theorem zip (os : Os) : ((World.laidAll Tryz.prog os Rows.worldTravelMatchesSpecRow.laid).forCall (fun _ _ => 0) ⟨#[], #[.agg #[.int .i64 0, .int .i64 0, .int .i64 0, .int .i64 0], .int .i64 0, .int .i64 0, .int .i64 0, .int .i64 0], []⟩).variablesZipB Tryz.prog = true := zip_of (laidAll_eq (heap0 os) yAll_eq) (by kernel_rfl)
end Go.T8
