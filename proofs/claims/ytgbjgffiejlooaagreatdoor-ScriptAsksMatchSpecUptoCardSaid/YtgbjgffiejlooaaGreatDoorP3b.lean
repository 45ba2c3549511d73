/- A part of the proof. -/
import Derived.Test.YtgbjgffiejlooaaGreatDoorP3a
import Derived.Test.YtgbjgffiejlooaaGreatDoorGd
import Derived.Test.YtgbjgffiejlooaaGreatDoorRows
set_option linter.unusedVariables false
set_option linter.unusedSimpArgs false
set_option maxRecDepth 1000000
namespace Go.T9
open Go Go.AM Go.FA Go.Proofs Go.Proofs.YtgbjgffiejlooaaGreatDoor Go.Proofs.Tryz
theorem wf4 : Rows.scriptAsksMatchSpecUptoRow.wf (OpenSpec.ofChange (Rows.OpenSpec.upto Rows.scriptAsksMatchSpecSpec).bare) = true := by kernel_rfl
theorem wft4 : Rows.scriptAsksMatchSpecUptoRow.wfByText (Rows.OpenSpec.upto Rows.scriptAsksMatchSpecSpec) = true := by kernel_rfl
theorem readable4 : (f4.params.toList.all fun t => Proofs.Tryz.prog.readableRec t && decide (t < Proofs.Tryz.prog.types.size)) = true := by
 unfold Program.readableRec Program.fineRow Program.partsOf Program.cellsOf Program.underlying
 rw [hT.1, hT.2, hB]
 kernel_rfl
theorem joined4 : joinedFacts Proofs.Tryz.prog 4 f4 (Rows.OpenSpec.upto Rows.scriptAsksMatchSpecSpec).bare Rows.scriptAsksMatchSpecUptoRow = true := by
 unfold joinedFacts OpenClaim.veiledFits Program.veiledOwn Program.readableRec Program.fineRow Program.mapsRec Program.ifacesRec Program.loopsFrom Program.wideKeysFrom Program.veiledRec Program.partsOf Program.cellsOf Program.underlying
 rw [wf4, laidOut, jb, heard, jY, rI, fB, nO, mf, hT.1, hT.2, hB]
 kernel_rfl
end Go.T9
