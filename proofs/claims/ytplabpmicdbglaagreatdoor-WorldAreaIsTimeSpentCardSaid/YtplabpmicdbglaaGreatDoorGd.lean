/- A part of the proof. -/
import Derived.Test.YtplabpmicdbglaaGreatDoorGa
import Derived.Test.YtplabpmicdbglaaGreatDoorL
set_option maxRecDepth 1000000
namespace Go.T9
open Go Go.AM Go.FA
def books : List (Nat × Nat × List TypeId) := [(25, 3, [25, 3, 22, 23, 59, 62, 9]), (3, 0, [3]), (22, 2, [22, 59, 3, 9]), (23, 2, [23, 62, 3, 9]), (59, 1, [59, 3, 9]), (62, 1, [62, 3, 9]), (9, 0, [9]), (4, 0, [4]), (322, 1, [322, 249]), (249, 0, [249]), (437, 1, [437, 5]), (5, 0, [5]), (438, 1, [438, 5]), (391, 0, [391]), (499, 3, [499, 588, 247, 586, 21]), (588, 2, [588, 247, 586, 21]), (247, 0, [247]), (586, 1, [586, 21]), (21, 0, [21]), (493, 1, [493, 492]), (492, 0, [492]), (494, 2, [494, 496, 492]), (496, 1, [496, 492]), (584, 2, [584, 583, 5]), (583, 1, [583, 5]), (581, 1, [581, 5])]
theorem hB : Proofs.Tryz.prog.book = bookF Proofs.Tryz.prog books := book_fun hT.1 books (by
  rw [grown_fun]
  unfold Program.grow Program.partsOf Program.underlying
  rw [hT.2]
  kernel_rfl)
end Go.T9
