/- A part of the proof. -/
import Derived.Test.YtcplcanaonmmpaaGreatDoorGa
import Derived.Test.YtcplcanaonmmpaaGreatDoorL
set_option linter.unusedVariables false
set_option linter.unusedSimpArgs false
set_option maxRecDepth 1000000
namespace Go.T9
open Go Go.AM Go.FA
def books : List (Nat × Nat × List TypeId) := [(24, 1, [24, 3]), (3, 0, [3]), (4, 0, [4]), (554, 1, [554, 5]), (5, 0, [5]), (557, 2, [557, 556, 5]), (556, 1, [556, 5]), (463, 2, [463, 465, 461]), (465, 1, [465, 461]), (461, 0, [461]), (462, 1, [462, 461]), (468, 3, [468, 561, 235, 559, 21]), (561, 2, [561, 235, 559, 21]), (235, 0, [235]), (559, 1, [559, 21]), (21, 0, [21]), (350, 0, [350]), (697, 1, [697, 5]), (696, 1, [696, 5]), (606, 1, [606, 237]), (237, 0, [237])]
theorem hB : Proofs.Tryz.prog.book = bookF Proofs.Tryz.prog books := book_fun hT.1 books (by
 rw [grown_fun]
 unfold Program.grow Program.partsOf Program.underlying
 rw [hT.2]
 kernel_rfl)
end Go.T9
