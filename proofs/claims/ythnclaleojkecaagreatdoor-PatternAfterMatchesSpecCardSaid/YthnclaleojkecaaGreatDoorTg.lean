/- A part of the proof. -/
import Derived.Test.YthnclaleojkecaaGreatDoorTa
import Derived.Test.YthnclaleojkecaaGreatDoorTd
import Derived.SevenTiedAt
set_option linter.unusedVariables false
set_option linter.unusedSimpArgs false
set_option maxRecDepth 1000000
namespace Go.T9
open Go Go.AM Go.FA Go.Proofs Go.Proofs.YthnclaleojkecaaGreatDoor Go.Proofs.Tryz
theorem mv:Proofs.Tryz.prog.headLifts.contains "ownunsafe" =false:=by kernel_rfl
theorem tieL3:Proofs.Tryz.prog.laidByTextLater laidL3 [.data,.data,.data] true:=
 Program.laidByTextLater_of_run 136 400 8 tw1 tw2 tw3 tkL3 namedV tnL3 tdL3 teL3 (λb a=>Db (tfL3 b a) (tgL3 b a)) (by kernel_rfl)
end Go.T9
