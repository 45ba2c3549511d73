/- A part of the proof. -/
import Derived.Test.YtdgjjfkjhikbaaaDoorTa
set_option linter.unusedVariables false
set_option linter.unusedSimpArgs false
set_option maxRecDepth 1000000
namespace Go.T9
open Go Go.AM Go.FA Go.Proofs Go.Proofs.YtdgjjfkjhikbaaaDoor
theorem tnL4 : varsNamedLaterB Proofs.Tryd.prog 131 laidL4 = true := by kernel_rfl
end Go.T9
