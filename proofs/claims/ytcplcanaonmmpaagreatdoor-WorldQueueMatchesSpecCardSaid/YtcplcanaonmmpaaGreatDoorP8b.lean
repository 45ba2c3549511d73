/- A part of the proof. -/
import Derived.Test.YtcplcanaonmmpaaGreatDoorP8a
import Derived.Test.YtcplcanaonmmpaaGreatDoorGd
import Derived.Test.YtcplcanaonmmpaaGreatDoorRows
set_option linter.unusedVariables false
set_option linter.unusedSimpArgs false
set_option maxRecDepth 1000000
namespace Go.T9
open Go Go.AM Go.FA Go.Proofs Go.Proofs.YtcplcanaonmmpaaGreatDoor
theorem wf8 : Rows.worldQueueMatchesSpecRow.wf (OpenSpec.ofChange Rows.worldQueueMatchesSpecSpec) = true := by kernel_rfl
theorem wft8 : Rows.worldQueueMatchesSpecRow.wfByText (OpenSpec.ofChange Rows.worldQueueMatchesSpecSpec) = true := by kernel_rfl
theorem readable8 : (Proofs.Tryz.f8.params.toList.all fun t => Proofs.Tryz.prog.readableRec t && decide (t < Proofs.Tryz.prog.types.size)) = true := by
 unfold Program.readableRec Program.fineRow Program.partsOf Program.cellsOf Program.underlying
 rw [hT.1, hT.2, hB]
 kernel_rfl
theorem joined8 : joinedFacts Proofs.Tryz.prog 8 Proofs.Tryz.f8 Rows.worldQueueMatchesSpecSpec Rows.worldQueueMatchesSpecRow = true := by
 unfold joinedFacts OpenClaim.veiledFits Program.veiledOwn Program.readableRec Program.fineRow Program.mapsRec Program.ifacesRec Program.loopsFrom Program.wideKeysFrom Program.veiledRec Program.partsOf Program.cellsOf Program.underlying
 rw [wf8, laidOut, mapsRowed_ok, heard, mayEnter_ok, inPlace8, unfollowed8, recurses8, varsNamed8, hT.1, hT.2, hB]
 kernel_rfl
end Go.T9
