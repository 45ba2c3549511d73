/- A part of the proof. -/
import Derived.Test.YtdgjjfkjhikbaaaDoorWa
import Derived.LaidMore
import Derived.Lay
import Derived.ProofKit
import Derived.Stop.Joined
set_option linter.unusedVariables false
set_option linter.unusedSimpArgs false
set_option maxRecDepth 1000000
namespace Go.T9
open Go Go.AM Go.FA Go.Proofs Go.Proofs.YtdgjjfkjhikbaaaDoor
theorem layFL4 (os : Os) : (World.holding Proofs.Tryd.prog os ⟨#[], #[], []⟩).layFits Proofs.Tryd.prog Rows.patternCoversMatchesSpecRow.laid [] = true := layFits_of (heapL4 os) yAll_eqL4 (by kernel_rfl)
end Go.T9
