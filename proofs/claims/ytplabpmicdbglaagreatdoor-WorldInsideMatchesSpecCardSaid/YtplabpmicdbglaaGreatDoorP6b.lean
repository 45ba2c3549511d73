/- A part of the proof. -/
import Derived.Test.YtplabpmicdbglaaGreatDoorP6a
import Derived.Test.YtplabpmicdbglaaGreatDoorGd
import Derived.Test.YtplabpmicdbglaaGreatDoorRows
set_option maxRecDepth 1000000
namespace Go.T9
open Go Go.AM Go.FA Go.Proofs Go.Proofs.YtplabpmicdbglaaGreatDoor
theorem wf6 : Rows.worldInsideMatchesSpecRow.wf (OpenSpec.ofChange Rows.worldInsideMatchesSpecSpec) = true := by kernel_rfl
theorem wft6 : Rows.worldInsideMatchesSpecRow.wfByText (OpenSpec.ofChange Rows.worldInsideMatchesSpecSpec) = true := by kernel_rfl
theorem readable6 : (Proofs.Tryz.f6.params.toList.all fun t => Proofs.Tryz.prog.readableRec t && decide (t < Proofs.Tryz.prog.types.size)) = true := by
  unfold Program.readableRec Program.fineRow Program.partsOf Program.cellsOf Program.underlying
  rw [hT.1, hT.2, hB]
  kernel_rfl
theorem joined6 : joinedFacts Proofs.Tryz.prog 6 Proofs.Tryz.f6 Rows.worldInsideMatchesSpecSpec Rows.worldInsideMatchesSpecRow = true := by
  unfold joinedFacts OpenClaim.veiledFits Program.veiledOwn Program.readableRec Program.fineRow Program.mapsRec Program.ifacesRec Program.loopsFrom Program.wideKeysFrom Program.veiledRec Program.partsOf Program.cellsOf Program.underlying
  rw [wf6, laidOut, mapsRowed_ok, heard, mayEnter_ok, inPlace6, unfollowed6, recurses6, varsNamed6, hT.1, hT.2, hB]
  kernel_rfl
end Go.T9
