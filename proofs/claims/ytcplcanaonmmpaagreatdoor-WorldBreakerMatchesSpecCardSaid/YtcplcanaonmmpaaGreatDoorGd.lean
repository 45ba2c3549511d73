/- A part of the proof. -/
import Derived.Test.YtcplcanaonmmpaaGreatDoorGa
import Derived.Test.YtcplcanaonmmpaaGreatDoorL
set_option maxRecDepth 1000000
namespace Go.T9
open Go Go.AM Go.FA
def books : List (Nat × Nat × List TypeId) := [(38, 2, [38, 161, 3]), (161, 1, [161, 3]), (3, 0, [3]), (4, 0, [4]), (42, 2, [42, 117, 3]), (117, 1, [117, 3]), (23, 1, [23, 3]), (24, 1, [24, 3]), (25, 1, [25, 4]), (62, 3, [62, 3, 59, 60, 106, 108, 9]), (59, 2, [59, 106, 3, 9]), (60, 2, [60, 108, 3, 9]), (106, 1, [106, 3, 9]), (108, 1, [108, 3, 9]), (9, 0, [9]), (697, 1, [697, 5]), (5, 0, [5]), (554, 1, [554, 5]), (557, 2, [557, 556, 5]), (556, 1, [556, 5]), (462, 1, [462, 461]), (461, 0, [461]), (463, 2, [463, 465, 461]), (465, 1, [465, 461]), (468, 3, [468, 561, 235, 559, 21]), (561, 2, [561, 235, 559, 21]), (235, 0, [235]), (559, 1, [559, 21]), (21, 0, [21]), (606, 1, [606, 237]), (237, 0, [237]), (696, 1, [696, 5]), (350, 0, [350])]
theorem hB : Proofs.Tryz.prog.book = bookF Proofs.Tryz.prog books := book_fun hT.1 books (by
  rw [grown_fun]
  unfold Program.grow Program.partsOf Program.underlying
  rw [hT.2]
  kernel_rfl)
end Go.T9
