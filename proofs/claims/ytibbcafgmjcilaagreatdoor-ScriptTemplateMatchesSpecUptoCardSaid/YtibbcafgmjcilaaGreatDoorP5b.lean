/- A part of the proof. -/
import Derived.Test.YtibbcafgmjcilaaGreatDoorP5a
import Derived.Test.YtibbcafgmjcilaaGreatDoorGd
import Derived.Test.YtibbcafgmjcilaaGreatDoorRows
set_option maxRecDepth 1000000
namespace Go.T9
open Go Go.AM Go.FA Go.Proofs Go.Proofs.YtibbcafgmjcilaaGreatDoor
theorem wf5 : Rows.scriptTemplateMatchesSpecUptoRow.wf (OpenSpec.ofChange (Rows.OpenSpec.upto Rows.scriptTemplateMatchesSpecSpec).bare) = true := by kernel_rfl
theorem wft5 : Rows.scriptTemplateMatchesSpecUptoRow.wfByText (Rows.OpenSpec.upto Rows.scriptTemplateMatchesSpecSpec) = true := by kernel_rfl
theorem readable5 : (Proofs.Tryz.f5.params.toList.all fun t => Proofs.Tryz.prog.readableRec t && decide (t < Proofs.Tryz.prog.types.size)) = true := by
  unfold Program.readableRec Program.fineRow Program.partsOf Program.cellsOf Program.underlying
  rw [hT.1, hT.2, hB]
  kernel_rfl
theorem joined5 : joinedFacts Proofs.Tryz.prog 5 Proofs.Tryz.f5 (Rows.OpenSpec.upto Rows.scriptTemplateMatchesSpecSpec).bare Rows.scriptTemplateMatchesSpecUptoRow = true := by
  unfold joinedFacts OpenClaim.veiledFits Program.veiledOwn Program.readableRec Program.fineRow Program.mapsRec Program.ifacesRec Program.loopsFrom Program.wideKeysFrom Program.veiledRec Program.partsOf Program.cellsOf Program.underlying
  rw [wf5, laidOut, mapsRowed_ok, heard, mayEnter_ok, inPlace5, unfollowed5, recurses5, varsNamed5, hT.1, hT.2, hB]
  kernel_rfl
end Go.T9
