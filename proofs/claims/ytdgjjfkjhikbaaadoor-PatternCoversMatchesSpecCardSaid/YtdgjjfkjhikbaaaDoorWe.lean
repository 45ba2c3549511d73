/- A part of the proof. -/
import Derived.Test.YtdgjjfkjhikbaaaDoorWa
import Derived.LaidMore
import Derived.Lay
import Derived.ProofKit
import Derived.Stop.Joined
set_option linter.unusedVariables false
set_option linter.unusedSimpArgs false
set_option maxRecDepth 1000000
namespace Go.T9
open Go Go.AM Go.FA Go.Proofs Go.Proofs.YtdgjjfkjhikbaaaDoor
theorem layIL4 (os : Os) : (World.holding Proofs.Tryd.prog os ⟨#[], #[], []⟩).layIfaces Proofs.Tryd.prog Rows.patternCoversMatchesSpecRow.laid (World.laidAll Proofs.Tryd.prog os Rows.patternCoversMatchesSpecRow.laid) = true := layIfaces_of (heapL4 os) yAll_eqL4 (laidAll_eq (heapL4 os) yAll_eqL4) (by kernel_rfl)
end Go.T9
