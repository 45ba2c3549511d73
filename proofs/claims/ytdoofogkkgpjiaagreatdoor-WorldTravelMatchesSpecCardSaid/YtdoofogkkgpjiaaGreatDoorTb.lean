/- A part of the proof. -/
import Derived.Test.YtdoofogkkgpjiaaGreatDoorTa
import Derived.Test.YtdoofogkkgpjiaaGreatDoorL
import Derived.Test.YtdoofogkkgpjiaaGreatDoorRows
import Derived.LaidByTextLater
set_option maxRecDepth 1000000
namespace Go.T8
open Go Go.AM Go.FA Go.Proofs Go.Proofs.YtdoofogkkgpjiaaGreatDoor
theorem td (os : Os) (tape : Tape) : varsDone Tryz.prog 400 620 os tape = true := by kernel_rfl
end Go.T8
