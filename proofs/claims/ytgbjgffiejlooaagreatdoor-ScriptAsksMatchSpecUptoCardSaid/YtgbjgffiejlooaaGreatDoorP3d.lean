/- A part of the proof. -/
import Derived.Test.YtgbjgffiejlooaaGreatDoorWa
import Derived.LaidMore
import Derived.Lay
import Derived.ProofKit
import Derived.Stop.Joined
set_option linter.unusedVariables false
set_option linter.unusedSimpArgs false
set_option maxRecDepth 1000000
namespace Go.T9
open Go Go.AM Go.FA Go.Proofs Go.Proofs.YtgbjgffiejlooaaGreatDoor Go.Proofs.Tryz
theorem zipL4 (os : Os) : ((World.laidAll Proofs.Tryz.prog os Rows.scriptAsksMatchSpecUptoRow.laid).forCall (fun _ _ => 0) ⟨#[], #[.slice none 0 0], []⟩).variablesZipB Proofs.Tryz.prog = true := zip_of (ez (jk os) cH) (by kernel_rfl)
end Go.T9
