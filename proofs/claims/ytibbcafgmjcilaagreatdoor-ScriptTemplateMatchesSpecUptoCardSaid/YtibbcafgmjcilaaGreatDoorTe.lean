/- A part of the proof. -/
import Derived.Test.YtibbcafgmjcilaaGreatDoorTa
set_option maxRecDepth 1000000
namespace Go.T9
open Go Go.AM Go.FA Go.Proofs Go.Proofs.YtibbcafgmjcilaaGreatDoor
theorem tfL5 (os : Os) (tape : Tape) : (DataW.laidRun Proofs.Tryz.prog (varsWorld Proofs.Tryz.prog 400 352 os tape).memory 8 (laidL5.map (·.1))).map (fun x => decide x.2.Nodup) = some true := map_nodup (by kernel_rfl)
end Go.T9
