/- A part of the proof. -/
import Derived.Test.YtibbcafgmjcilaaGreatDoorTa
set_option maxRecDepth 1000000
namespace Go.T9
open Go Go.AM Go.FA Go.Proofs Go.Proofs.YtibbcafgmjcilaaGreatDoor
theorem tdL5 (os : Os) (tape : Tape) : varsDone Proofs.Tryz.prog 400 352 os tape = true := by kernel_rfl
end Go.T9
