/- A part of the proof. -/
import Derived.Test.YthnclaleojkecaaGreatDoorGd
import Derived.Test.YthnclaleojkecaaGreatDoorRows
set_option linter.unusedVariables false
set_option linter.unusedSimpArgs false
set_option maxRecDepth 1000000
namespace Go.T9
open Go Go.AM Go.FA Go.Proofs Go.Proofs.YthnclaleojkecaaGreatDoor Go.Proofs.Tryz
theorem wf3:Rows.patternReduceMatchesSpecRow.wf (OpenSpec.ofChange Rows.patternReduceMatchesSpecSpec)=true:=by kernel_rfl
theorem wft3:Rows.patternReduceMatchesSpecRow.wfByText (OpenSpec.ofChange Rows.patternReduceMatchesSpecSpec)=true:=by kernel_rfl
theorem readable3:(f3.params.toList.all λt=>Proofs.Tryz.prog.readableRec t&&decide (t<Proofs.Tryz.prog.types.size))=true:=by unfold Program.readableRec Program.fineRow Program.partsOf Program.cellsOf Program.underlying;rw[hT.1,hT.2,hBz];kernel_rfl
theorem joined3:joinedFacts Proofs.Tryz.prog 3 f3 Rows.patternReduceMatchesSpecSpec Rows.patternReduceMatchesSpecRow=true:=by unfold joinedFacts OpenClaim.veiledFits Program.veiledOwn Program.readableRec Program.fineRow Program.mapsRec Program.ifacesRec Program.loopsFrom Program.wideKeysFrom Program.veiledRec Program.partsOf Program.cellsOf Program.underlying;rw[wf3,laidOut,nZ,heard,pw,zl,jc,uQ,sM,hT.1,hT.2,hBz];kernel_rfl
end Go.T9
