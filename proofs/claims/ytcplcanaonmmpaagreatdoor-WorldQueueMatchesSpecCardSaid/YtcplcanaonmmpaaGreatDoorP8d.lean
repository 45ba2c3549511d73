/- A part of the proof. -/
import Derived.Test.YtcplcanaonmmpaaGreatDoorWa
import Derived.LaidMore
import Derived.Lay
import Derived.ProofKit
import Derived.Stop.Joined
set_option linter.unusedVariables false
set_option linter.unusedSimpArgs false
set_option maxRecDepth 1000000
namespace Go.T9
open Go Go.AM Go.FA Go.Proofs Go.Proofs.YtcplcanaonmmpaaGreatDoor
theorem zipL8 (os : Os) : ((World.laidAll Proofs.Tryz.prog os Rows.worldQueueMatchesSpecRow.laid).forCall (fun _ _ => 0) ⟨#[], #[.slice none 0 0, .slice none 0 0, .int .i64 0, .int .i64 0], []⟩).variablesZipB Proofs.Tryz.prog = true := zip_of (laidAll_eq (heapL7 os) yAll_eqL7) (by kernel_rfl)
end Go.T9
