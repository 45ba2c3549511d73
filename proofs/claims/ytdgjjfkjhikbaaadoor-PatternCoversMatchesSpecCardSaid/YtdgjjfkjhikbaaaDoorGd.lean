/- A part of the proof. -/
import Derived.Test.YtdgjjfkjhikbaaaDoorGa
import Derived.Test.YtdgjjfkjhikbaaaDoorL
set_option linter.unusedVariables false
set_option linter.unusedSimpArgs false
set_option maxRecDepth 1000000
namespace Go.T9
open Go Go.AM Go.FA
def books : List (Nat × Nat × List TypeId) := [(29, 2, [29, 3, 26, 27, 4, 50]), (3, 0, [3]), (26, 1, [26, 4]), (27, 2, [27, 50, 3]), (4, 0, [4]), (50, 1, [50, 3]), (9, 0, [9]), (25, 2, [25, 3, 22, 23, 82]), (22, 2, [22, 82, 3]), (23, 3, [23, 25, 3, 22, 82]), (82, 1, [82, 3]), (156, 1, [156, 5]), (5, 0, [5])]
theorem hB : Proofs.Tryd.prog.book = bookF Proofs.Tryd.prog books := book_fun hT.1 books (by
 rw [grown_fun]
 unfold Program.grow Program.partsOf Program.underlying
 rw [hT.2]
 kernel_rfl)
end Go.T9
