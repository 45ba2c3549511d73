/- A part of the proof. -/
import Derived.Test.YtibbcafgmjcilaaGreatDoorP4a
import Derived.Test.YtibbcafgmjcilaaGreatDoorGd
import Derived.Test.YtibbcafgmjcilaaGreatDoorRows
set_option maxRecDepth 1000000
namespace Go.T9
open Go Go.AM Go.FA Go.Proofs Go.Proofs.YtibbcafgmjcilaaGreatDoor
theorem wf4 : Rows.scriptRowMatchesSpecRow.wf (OpenSpec.ofChange Rows.scriptRowMatchesSpecSpec) = true := by kernel_rfl
theorem wft4 : Rows.scriptRowMatchesSpecRow.wfByText (OpenSpec.ofChange Rows.scriptRowMatchesSpecSpec) = true := by kernel_rfl
theorem readable4 : (Proofs.Tryz.f4.params.toList.all fun t => Proofs.Tryz.prog.readableRec t && decide (t < Proofs.Tryz.prog.types.size)) = true := by
  unfold Program.readableRec Program.fineRow Program.partsOf Program.cellsOf Program.underlying
  rw [hT.1, hT.2, hB]
  kernel_rfl
theorem joined4 : joinedFacts Proofs.Tryz.prog 4 Proofs.Tryz.f4 Rows.scriptRowMatchesSpecSpec Rows.scriptRowMatchesSpecRow = true := by
  unfold joinedFacts OpenClaim.veiledFits Program.veiledOwn Program.readableRec Program.fineRow Program.mapsRec Program.ifacesRec Program.loopsFrom Program.wideKeysFrom Program.veiledRec Program.partsOf Program.cellsOf Program.underlying
  rw [wf4, laidOut, mapsRowed_ok, heard, mayEnter_ok, inPlace4, unfollowed4, recurses4, varsNamed4, hT.1, hT.2, hB]
  kernel_rfl
end Go.T9
