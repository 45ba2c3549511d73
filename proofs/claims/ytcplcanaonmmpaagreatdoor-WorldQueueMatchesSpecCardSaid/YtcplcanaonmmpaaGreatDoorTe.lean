/- A part of the proof. -/
import Derived.Test.YtcplcanaonmmpaaGreatDoorTa
set_option linter.unusedVariables false
set_option linter.unusedSimpArgs false
set_option maxRecDepth 1000000
namespace Go.T9
open Go Go.AM Go.FA Go.Proofs Go.Proofs.YtcplcanaonmmpaaGreatDoor
theorem tfL7 (os : Os) (tape : Tape) : (DataW.laidRun Proofs.Tryz.prog (varsWorld Proofs.Tryz.prog 400 673 os tape).memory 8 (laidL7.map (·.1))).map (fun x => decide x.2.Nodup) = some true := map_nodup (by kernel_rfl)
end Go.T9
