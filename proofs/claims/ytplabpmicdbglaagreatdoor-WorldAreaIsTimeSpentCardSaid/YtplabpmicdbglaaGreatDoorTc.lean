/- A part of the proof. -/
import Derived.Test.YtplabpmicdbglaaGreatDoorTa
set_option maxRecDepth 1000000
namespace Go.T9
open Go Go.AM Go.FA Go.Proofs Go.Proofs.YtplabpmicdbglaaGreatDoor
theorem tnL5 : varsNamedLaterB Proofs.Tryz.prog 704 laidL5 = true := by kernel_rfl
end Go.T9
