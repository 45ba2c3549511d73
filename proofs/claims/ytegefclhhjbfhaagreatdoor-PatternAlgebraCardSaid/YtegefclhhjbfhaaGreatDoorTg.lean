/- A part of the proof. -/
import Derived.Test.YtegefclhhjbfhaaGreatDoorTa
import Derived.Test.YtegefclhhjbfhaaGreatDoorTd
import Derived.SevenTiedAt
set_option linter.unusedVariables false
set_option linter.unusedSimpArgs false
set_option maxRecDepth 1000000
namespace Go.T9
open Go Go.AM Go.FA Go.Proofs Go.Proofs.YtegefclhhjbfhaaGreatDoor Go.Proofs.Tryz
theorem mK:Proofs.Tryz.prog.headLifts.contains "ownunsafe" =false:=by kernel_rfl
theorem tieL4:Proofs.Tryz.prog.laidByTextLater laidL4 [.data,.data,.data] true:=
 Program.laidByTextLater_of_run 154 400 8 tw1 tw2 tw3 tkL4 namedV tnL4 tdL4 teL4 (λb a=>Di (tfL4 b a) (tgL4 b a)) (by kernel_rfl)
end Go.T9
