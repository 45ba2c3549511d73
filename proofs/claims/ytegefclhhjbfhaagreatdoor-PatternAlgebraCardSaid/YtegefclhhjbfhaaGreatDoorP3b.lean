/- A part of the proof. -/
import Derived.Test.YtegefclhhjbfhaaGreatDoorGd
import Derived.Test.YtegefclhhjbfhaaGreatDoorRows
set_option linter.unusedVariables false
set_option linter.unusedSimpArgs false
set_option maxRecDepth 1000000
namespace Go.T9
open Go Go.AM Go.FA Go.Proofs Go.Proofs.YtegefclhhjbfhaaGreatDoor Go.Proofs.Tryz
theorem wf4:Rows.patternAlgebraRow.wf (OpenSpec.ofChange Rows.patternAlgebraSpec)=true:=by kernel_rfl
theorem wft4:Rows.patternAlgebraRow.wfByText (OpenSpec.ofChange Rows.patternAlgebraSpec)=true:=by kernel_rfl
theorem readable4:(f4.params.toList.all λt=>Proofs.Tryz.prog.readableRec t&&decide (t<Proofs.Tryz.prog.types.size))=true:=by unfold Program.readableRec Program.fineRow Program.partsOf Program.cellsOf Program.underlying;rw[hT.1,hT.2,hBz];kernel_rfl
theorem joined4:joinedFacts Proofs.Tryz.prog 4 f4 Rows.patternAlgebraSpec Rows.patternAlgebraRow=true:=by unfold joinedFacts OpenClaim.veiledFits Program.veiledOwn Program.readableRec Program.fineRow Program.mapsRec Program.ifacesRec Program.loopsFrom Program.wideKeysFrom Program.veiledRec Program.partsOf Program.cellsOf Program.underlying;rw[wf4,laidOut,ou,heard,pG,zv,jD,uS,sT,hT.1,hT.2,hBz];kernel_rfl
end Go.T9
