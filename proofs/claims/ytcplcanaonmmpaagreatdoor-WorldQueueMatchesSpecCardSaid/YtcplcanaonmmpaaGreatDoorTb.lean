/- A part of the proof. -/
import Derived.Test.YtcplcanaonmmpaaGreatDoorTa
set_option linter.unusedVariables false
set_option linter.unusedSimpArgs false
set_option maxRecDepth 1000000
namespace Go.T9
open Go Go.AM Go.FA Go.Proofs Go.Proofs.YtcplcanaonmmpaaGreatDoor
theorem tdL7 (os : Os) (tape : Tape) : varsDone Proofs.Tryz.prog 400 673 os tape = true := by kernel_rfl
end Go.T9
