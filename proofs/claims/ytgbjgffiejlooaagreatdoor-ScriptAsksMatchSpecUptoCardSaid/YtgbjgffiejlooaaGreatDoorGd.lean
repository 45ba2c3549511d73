/- A part of the proof. -/
import Derived.Test.YtgbjgffiejlooaaGreatDoorGa
import Derived.Test.YtgbjgffiejlooaaGreatDoorL
set_option linter.unusedVariables false
set_option linter.unusedSimpArgs false
set_option maxRecDepth 1000000
namespace Go.T9
open Go Go.AM Go.FA Go.Proofs.Tryz
def books : List (Nat × Nat × List TypeId) := [(22, 3, [22, 88, 3, 9, 50, 82, 83, 85, 86, 177, 179, 122]), (88, 2, [88, 3, 9, 50, 82, 83, 85, 22, 86, 177, 179, 122]), (3, 0, [3]), (9, 0, [9]), (50, 2, [50, 177, 9]), (82, 2, [82, 179, 3, 9]), (83, 2, [83, 85, 3, 9]), (85, 1, [85, 3, 9]), (86, 5, [86, 122, 3, 22, 88, 9, 50, 82, 83, 85, 177, 179]), (177, 1, [177, 9]), (179, 1, [179, 3, 9]), (122, 4, [122, 3, 22, 88, 9, 50, 82, 83, 85, 86, 177, 179]), (23, 2, [23, 42, 9, 3, 32, 40]), (42, 1, [42, 9, 3, 32, 40]), (32, 1, [32, 9]), (40, 2, [40, 32, 9]), (4, 0, [4]), (317, 1, [317, 5]), (5, 0, [5]), (320, 2, [320, 319, 5]), (319, 1, [319, 5]), (306, 1, [306, 305]), (305, 0, [305]), (307, 2, [307, 309, 305]), (309, 1, [309, 305]), (312, 3, [312, 345, 170, 343, 21]), (345, 2, [345, 170, 343, 21]), (170, 0, [170]), (343, 1, [343, 21]), (21, 0, [21]), (195, 0, [195]), (390, 1, [390, 172]), (172, 0, [172]), (395, 1, [395, 5]), (396, 1, [396, 5])]
theorem hB : Proofs.Tryz.prog.book = zL Proofs.Tryz.prog books := sj hT.1 books (by
 rw [oU]
 unfold Program.grow Program.partsOf Program.underlying
 rw [hT.2]
 kernel_rfl)
end Go.T9
