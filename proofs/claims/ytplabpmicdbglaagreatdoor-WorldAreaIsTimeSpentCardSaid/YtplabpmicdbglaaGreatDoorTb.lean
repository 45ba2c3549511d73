/- A part of the proof. -/
import Derived.Test.YtplabpmicdbglaaGreatDoorTa
set_option maxRecDepth 1000000
namespace Go.T9
open Go Go.AM Go.FA Go.Proofs Go.Proofs.YtplabpmicdbglaaGreatDoor
theorem tdL5 (os : Os) (tape : Tape) : varsDone Proofs.Tryz.prog 400 704 os tape = true := by kernel_rfl
end Go.T9
