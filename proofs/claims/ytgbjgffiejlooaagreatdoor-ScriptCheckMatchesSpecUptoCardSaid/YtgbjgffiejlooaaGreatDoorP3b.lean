/- A part of the proof. -/
import Derived.Test.YtgbjgffiejlooaaGreatDoorP3a
import Derived.Test.YtgbjgffiejlooaaGreatDoorGd
import Derived.Test.YtgbjgffiejlooaaGreatDoorRows
set_option linter.unusedVariables false
set_option linter.unusedSimpArgs false
set_option maxRecDepth 1000000
namespace Go.T9
open Go Go.AM Go.FA Go.Proofs Go.Proofs.YtgbjgffiejlooaaGreatDoor Go.Proofs.Tryz
theorem wf3 : Rows.scriptCheckMatchesSpecUptoRow.wf (OpenSpec.ofChange (Rows.OpenSpec.upto Rows.scriptCheckMatchesSpecSpec).bare) = true := by kernel_rfl
theorem wft3 : Rows.scriptCheckMatchesSpecUptoRow.wfByText (Rows.OpenSpec.upto Rows.scriptCheckMatchesSpecSpec) = true := by kernel_rfl
theorem readable3 : (f3.params.toList.all fun t => Proofs.Tryz.prog.readableRec t && decide (t < Proofs.Tryz.prog.types.size)) = true := by
 unfold Program.readableRec Program.fineRow Program.partsOf Program.cellsOf Program.underlying
 rw [hT.1, hT.2, hB]
 kernel_rfl
theorem joined3 : joinedFacts Proofs.Tryz.prog 3 f3 (Rows.OpenSpec.upto Rows.scriptCheckMatchesSpecSpec).bare Rows.scriptCheckMatchesSpecUptoRow = true := by
 unfold joinedFacts OpenClaim.veiledFits Program.veiledOwn Program.readableRec Program.fineRow Program.mapsRec Program.ifacesRec Program.loopsFrom Program.wideKeysFrom Program.veiledRec Program.partsOf Program.cellsOf Program.underlying
 rw [wf3, laidOut, jx, heard, kj, rY, fO, oc, mE, hT.1, hT.2, hB]
 kernel_rfl
end Go.T9
