/- A part of the proof. -/
import Derived.Test.YtdgjjfkjhikbaaaDoorTa
set_option linter.unusedVariables false
set_option linter.unusedSimpArgs false
set_option maxRecDepth 1000000
namespace Go.T9
open Go Go.AM Go.FA Go.Proofs Go.Proofs.YtdgjjfkjhikbaaaDoor
theorem tdL4 (os : Os) (tape : Tape) : varsDone Proofs.Tryd.prog 400 131 os tape = true := by kernel_rfl
end Go.T9
