/- A part of the proof. -/
import Derived.Test.YtcplcanaonmmpaaGreatDoorP7a
import Derived.Test.YtcplcanaonmmpaaGreatDoorGd
import Derived.Test.YtcplcanaonmmpaaGreatDoorRows
set_option linter.unusedVariables false
set_option linter.unusedSimpArgs false
set_option maxRecDepth 1000000
namespace Go.T9
open Go Go.AM Go.FA Go.Proofs Go.Proofs.YtcplcanaonmmpaaGreatDoor
theorem wf7 : Rows.worldQueueKeepsItsLimitsRow.wf (OpenSpec.ofChange Rows.worldQueueKeepsItsLimitsSpec) = true := by kernel_rfl
theorem wft7 : Rows.worldQueueKeepsItsLimitsRow.wfByText (OpenSpec.ofChange Rows.worldQueueKeepsItsLimitsSpec) = true := by kernel_rfl
theorem readable7 : (Proofs.Tryz.f7.params.toList.all fun t => Proofs.Tryz.prog.readableRec t && decide (t < Proofs.Tryz.prog.types.size)) = true := by
 unfold Program.readableRec Program.fineRow Program.partsOf Program.cellsOf Program.underlying
 rw [hT.1, hT.2, hB]
 kernel_rfl
theorem joined7 : joinedFacts Proofs.Tryz.prog 7 Proofs.Tryz.f7 Rows.worldQueueKeepsItsLimitsSpec Rows.worldQueueKeepsItsLimitsRow = true := by
 unfold joinedFacts OpenClaim.veiledFits Program.veiledOwn Program.readableRec Program.fineRow Program.mapsRec Program.ifacesRec Program.loopsFrom Program.wideKeysFrom Program.veiledRec Program.partsOf Program.cellsOf Program.underlying
 rw [wf7, laidOut, mapsRowed_ok, heard, mayEnter_ok, inPlace7, unfollowed7, recurses7, varsNamed7, hT.1, hT.2, hB]
 kernel_rfl
end Go.T9
