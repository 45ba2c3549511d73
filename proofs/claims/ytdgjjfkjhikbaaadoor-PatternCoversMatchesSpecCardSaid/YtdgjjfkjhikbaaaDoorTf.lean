/- A part of the proof. -/
import Derived.Test.YtdgjjfkjhikbaaaDoorTa
set_option linter.unusedVariables false
set_option linter.unusedSimpArgs false
set_option maxRecDepth 1000000
namespace Go.T9
open Go Go.AM Go.FA Go.Proofs Go.Proofs.YtdgjjfkjhikbaaaDoor
theorem tgL4 (os : Os) (tape : Tape) : (DataW.laidRun Proofs.Tryd.prog (varsWorld Proofs.Tryd.prog 400 131 os tape).memory 8 (laidL4.map (·.1))).map (fun x => laidRowsB Proofs.Tryd.prog (varsWorld Proofs.Tryd.prog 400 131 os tape).memory x.2) = some true := by kernel_rfl
end Go.T9
