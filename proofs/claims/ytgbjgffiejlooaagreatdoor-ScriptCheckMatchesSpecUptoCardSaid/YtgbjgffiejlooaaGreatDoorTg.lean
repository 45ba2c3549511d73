/- A part of the proof. -/
import Derived.Test.YtgbjgffiejlooaaGreatDoorTa
import Derived.Test.YtgbjgffiejlooaaGreatDoorTb
import Derived.Test.YtgbjgffiejlooaaGreatDoorTc
import Derived.Test.YtgbjgffiejlooaaGreatDoorTd
import Derived.Test.YtgbjgffiejlooaaGreatDoorTe
import Derived.Test.YtgbjgffiejlooaaGreatDoorTf
import Derived.SevenTiedAt
set_option linter.unusedVariables false
set_option linter.unusedSimpArgs false
set_option maxRecDepth 1000000
namespace Go.T9
open Go Go.AM Go.FA Go.Proofs Go.Proofs.YtgbjgffiejlooaaGreatDoor Go.Proofs.Tryz
theorem vU : Proofs.Tryz.prog.pinnedFits "unicode/utf8.first" = true := by
 unfold Program.pinnedFits
 rw [oH]
 kernel_rfl
theorem vT : Proofs.Tryz.prog.pinnedFits "unicode.CaseRanges" = true := by
 unfold Program.pinnedFits
 rw [oH]
 kernel_rfl
theorem iK : Proofs.Tryz.prog.headLifts.contains "ownunsafe" = false := by kernel_rfl
theorem tieL3 : Proofs.Tryz.prog.laidByTextLater laidL3 [.data, .data, .data, .sentinel, .sentinel, .data, .data, .data] true :=
 Program.laidByTextLater_of_run 379 400 8 tw1 tw2 tw3 tkL3 oH tnL3 tdL3 teL3 (fun os tape => wv (tfL3 os tape) (tgL3 os tape)) (by kernel_rfl)
end Go.T9
