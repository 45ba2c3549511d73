/- A part of the proof. -/
import Derived.Test.YtcplcanaonmmpaaGreatDoorP6a
import Derived.Test.YtcplcanaonmmpaaGreatDoorGd
import Derived.Test.YtcplcanaonmmpaaGreatDoorRows
set_option maxRecDepth 1000000
namespace Go.T9
open Go Go.AM Go.FA Go.Proofs Go.Proofs.YtcplcanaonmmpaaGreatDoor
theorem wf6 : Rows.worldPolicyMatchesSpecRow.wf (OpenSpec.ofChange Rows.worldPolicyMatchesSpecSpec) = true := by kernel_rfl
theorem wft6 : Rows.worldPolicyMatchesSpecRow.wfByText (OpenSpec.ofChange Rows.worldPolicyMatchesSpecSpec) = true := by kernel_rfl
theorem readable6 : (Proofs.Tryz.f6.params.toList.all fun t => Proofs.Tryz.prog.readableRec t && decide (t < Proofs.Tryz.prog.types.size)) = true := by
  unfold Program.readableRec Program.fineRow Program.partsOf Program.cellsOf Program.underlying
  rw [hT.1, hT.2, hB]
  kernel_rfl
theorem joined6 : joinedFacts Proofs.Tryz.prog 6 Proofs.Tryz.f6 Rows.worldPolicyMatchesSpecSpec Rows.worldPolicyMatchesSpecRow = true := by
  unfold joinedFacts OpenClaim.veiledFits Program.veiledOwn Program.readableRec Program.fineRow Program.mapsRec Program.ifacesRec Program.loopsFrom Program.wideKeysFrom Program.veiledRec Program.partsOf Program.cellsOf Program.underlying
  rw [wf6, laidOut, mapsRowed_ok, heard, mayEnter_ok, inPlace6, unfollowed6, recurses6, varsNamed6, hT.1, hT.2, hB]
  kernel_rfl
end Go.T9
