/- A part of the proof. -/
import Derived.Test.YtegefclhhjbfhaaGreatDoorTg
import Derived.Test.YtegefclhhjbfhaaGreatDoorP3b
set_option linter.unusedVariables false
set_option linter.unusedSimpArgs false
set_option maxRecDepth 1000000
namespace Go.T9
open Go Go.AM Go.FA Go.Proofs Go.Proofs.YtegefclhhjbfhaaGreatDoor Go.Proofs.Tryz
theorem fits4:Tryz.pinned.checked.prog.listedFits Rows.patternAlgebraRow.laid=true:=by show Proofs.Tryz.prog.listedFits _=true;unfold Program.listedFits;rw[mK];kernel_rfl
theorem row_tie4:Rows.patternAlgebraRow.laidByTextAt .later Tryz.pinned [.data,.data,.data] true:=
 OpenClaim.laidByTextAt_fits rfl rfl tieL4 fits4
end Go.T9
