/- A part of the proof. -/
import Derived.Test.YtibbcafgmjcilaaGreatDoorTa
set_option maxRecDepth 1000000
namespace Go.T9
open Go Go.AM Go.FA Go.Proofs Go.Proofs.YtibbcafgmjcilaaGreatDoor
theorem teL5 (os : Os) (tape : Tape) : (DataW.laidRun Proofs.Tryz.prog (varsWorld Proofs.Tryz.prog 400 352 os tape).memory 8 (laidL5.map (·.1))).map (·.1) = some laidL5 := by kernel_rfl
end Go.T9
