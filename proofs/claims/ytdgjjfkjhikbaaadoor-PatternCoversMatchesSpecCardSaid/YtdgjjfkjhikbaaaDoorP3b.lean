/- A part of the proof. -/
import Derived.Test.YtdgjjfkjhikbaaaDoorP3a
import Derived.Test.YtdgjjfkjhikbaaaDoorGd
import Derived.Test.YtdgjjfkjhikbaaaDoorRows
set_option linter.unusedVariables false
set_option linter.unusedSimpArgs false
set_option maxRecDepth 1000000
namespace Go.T9
open Go Go.AM Go.FA Go.Proofs Go.Proofs.YtdgjjfkjhikbaaaDoor
theorem wf4 : Rows.patternCoversMatchesSpecRow.wf (OpenSpec.ofChange Rows.patternCoversMatchesSpecSpec) = true := by kernel_rfl
theorem wft4 : Rows.patternCoversMatchesSpecRow.wfByText (OpenSpec.ofChange Rows.patternCoversMatchesSpecSpec) = true := by kernel_rfl
theorem readable4 : (Proofs.Tryd.f4.params.toList.all fun t => Proofs.Tryd.prog.readableRec t && decide (t < Proofs.Tryd.prog.types.size)) = true := by
 unfold Program.readableRec Program.fineRow Program.partsOf Program.cellsOf Program.underlying
 rw [hT.1, hT.2, hB]
 kernel_rfl
theorem joined4 : joinedFacts Proofs.Tryd.prog 4 Proofs.Tryd.f4 Rows.patternCoversMatchesSpecSpec Rows.patternCoversMatchesSpecRow = true := by
 unfold joinedFacts OpenClaim.veiledFits Program.veiledOwn Program.readableRec Program.fineRow Program.mapsRec Program.ifacesRec Program.loopsFrom Program.wideKeysFrom Program.veiledRec Program.partsOf Program.cellsOf Program.underlying
 rw [wf4, laidOut, mapsRowed_ok, heard, mayEnter_ok, inPlace4, unfollowed4, recurses4, varsNamed4, hT.1, hT.2, hB]
 kernel_rfl
end Go.T9
