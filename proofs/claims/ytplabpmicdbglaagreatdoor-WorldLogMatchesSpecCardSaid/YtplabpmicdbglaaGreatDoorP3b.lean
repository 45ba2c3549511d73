/- A part of the proof. -/
import Derived.Test.YtplabpmicdbglaaGreatDoorP3a
import Derived.Test.YtplabpmicdbglaaGreatDoorGd
import Derived.Test.YtplabpmicdbglaaGreatDoorRows
set_option maxRecDepth 1000000
namespace Go.T9
open Go Go.AM Go.FA Go.Proofs Go.Proofs.YtplabpmicdbglaaGreatDoor
theorem wf3 : Rows.worldLogMatchesSpecRow.wf (OpenSpec.ofChange Rows.worldLogMatchesSpecSpec) = true := by kernel_rfl
theorem wft3 : Rows.worldLogMatchesSpecRow.wfByText (OpenSpec.ofChange Rows.worldLogMatchesSpecSpec) = true := by kernel_rfl
theorem readable3 : (Proofs.Tryz.f3.params.toList.all fun t => Proofs.Tryz.prog.readableRec t && decide (t < Proofs.Tryz.prog.types.size)) = true := by
  unfold Program.readableRec Program.fineRow Program.partsOf Program.cellsOf Program.underlying
  rw [hT.1, hT.2, hB]
  kernel_rfl
theorem joined3 : joinedFacts Proofs.Tryz.prog 3 Proofs.Tryz.f3 Rows.worldLogMatchesSpecSpec Rows.worldLogMatchesSpecRow = true := by
  unfold joinedFacts OpenClaim.veiledFits Program.veiledOwn Program.readableRec Program.fineRow Program.mapsRec Program.ifacesRec Program.loopsFrom Program.wideKeysFrom Program.veiledRec Program.partsOf Program.cellsOf Program.underlying
  rw [wf3, laidOut, mapsRowed_ok, heard, mayEnter_ok, inPlace3, unfollowed3, recurses3, varsNamed3, hT.1, hT.2, hB]
  kernel_rfl
end Go.T9
