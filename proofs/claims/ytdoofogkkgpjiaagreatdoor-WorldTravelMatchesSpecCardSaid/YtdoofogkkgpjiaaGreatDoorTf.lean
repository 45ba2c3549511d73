/- A part of the proof. -/
import Derived.Test.YtdoofogkkgpjiaaGreatDoorTa
import Derived.Test.YtdoofogkkgpjiaaGreatDoorL
import Derived.Test.YtdoofogkkgpjiaaGreatDoorRows
import Derived.LaidByTextLater
set_option maxRecDepth 1000000
namespace Go.T8
open Go Go.AM Go.FA Go.Proofs Go.Proofs.YtdoofogkkgpjiaaGreatDoor
theorem t2b (os : Os) (tape : Tape) : (DataW.laidRun Tryz.prog (varsWorld Tryz.prog 400 620 os tape).memory 8 (laidT.map (·.1))).map (fun x => laidRowsB Tryz.prog (varsWorld Tryz.prog 400 620 os tape).memory x.2) = some true := by kernel_rfl
end Go.T8
