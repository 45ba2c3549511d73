/- A part of the proof. -/
import Derived.Test.YtgbjgffiejlooaaGreatDoorTa
import Derived.Test.YtgbjgffiejlooaaGreatDoorTb
import Derived.Test.YtgbjgffiejlooaaGreatDoorTc
import Derived.Test.YtgbjgffiejlooaaGreatDoorTd
import Derived.Test.YtgbjgffiejlooaaGreatDoorTe
import Derived.Test.YtgbjgffiejlooaaGreatDoorTf
import Derived.SevenTiedAt
set_option linter.unusedVariables false
set_option linter.unusedSimpArgs false
set_option maxRecDepth 1000000
namespace Go.T9
open Go Go.AM Go.FA Go.Proofs Go.Proofs.YtgbjgffiejlooaaGreatDoor Go.Proofs.Tryz
theorem wa : Proofs.Tryz.prog.pinnedFits "unicode/utf8.first" = true := by
 unfold Program.pinnedFits
 rw [oh]
 kernel_rfl
theorem v8 : Proofs.Tryz.prog.pinnedFits "unicode.CaseRanges" = true := by
 unfold Program.pinnedFits
 rw [oh]
 kernel_rfl
theorem iy : Proofs.Tryz.prog.headLifts.contains "ownunsafe" = false := by kernel_rfl
theorem tieL4 : Proofs.Tryz.prog.laidByTextLater laidL4 [.data, .data, .data, .sentinel, .sentinel, .data, .data, .data] true :=
 Program.laidByTextLater_of_run 379 400 8 tw1 tw2 tw3 tkL4 oh tnL4 tdL4 teL4 (fun os tape => wI (tfL4 os tape) (tgL4 os tape)) (by kernel_rfl)
end Go.T9
