/- A part of the proof. -/
import Derived.Test.YtibbcafgmjcilaaGreatDoorTa
set_option maxRecDepth 1000000
namespace Go.T9
open Go Go.AM Go.FA Go.Proofs Go.Proofs.YtibbcafgmjcilaaGreatDoor
theorem tnL5 : varsNamedLaterB Proofs.Tryz.prog 352 laidL5 = true := by kernel_rfl
end Go.T9
