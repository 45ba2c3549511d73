/- A part of the proof. -/
import Derived.Test.YtdgjjfkjhikbaaaDoorTg
import Derived.Test.YtdgjjfkjhikbaaaDoorP3b
set_option linter.unusedVariables false
set_option linter.unusedSimpArgs false
set_option maxRecDepth 1000000
namespace Go.T9
open Go Go.AM Go.FA Go.Proofs Go.Proofs.YtdgjjfkjhikbaaaDoor
theorem fits4 : Tryd.pinned.checked.prog.listedFits Rows.patternCoversMatchesSpecRow.laid = true := by
 show Proofs.Tryd.prog.listedFits _ = true
 unfold Program.listedFits
 rw [noOwnUnsafeL4]
 kernel_rfl
theorem row_tie4 : Rows.patternCoversMatchesSpecRow.laidByTextAt .later Tryd.pinned [.data] true :=
 OpenClaim.laidByTextAt_fits rfl rfl tieL4 fits4
end Go.T9
