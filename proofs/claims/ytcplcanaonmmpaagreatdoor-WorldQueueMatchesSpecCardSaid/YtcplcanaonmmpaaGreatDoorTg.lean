/- A part of the proof. -/
import Derived.Test.YtcplcanaonmmpaaGreatDoorTa
import Derived.Test.YtcplcanaonmmpaaGreatDoorTb
import Derived.Test.YtcplcanaonmmpaaGreatDoorTc
import Derived.Test.YtcplcanaonmmpaaGreatDoorTd
import Derived.Test.YtcplcanaonmmpaaGreatDoorTe
import Derived.Test.YtcplcanaonmmpaaGreatDoorTf
import Derived.SevenTiedAt
set_option linter.unusedVariables false
set_option linter.unusedSimpArgs false
set_option maxRecDepth 1000000
namespace Go.T9
open Go Go.AM Go.FA Go.Proofs Go.Proofs.YtcplcanaonmmpaaGreatDoor
theorem pinL7_0 : Proofs.Tryz.prog.pinnedFits "unicode/utf8.first" = true := by
 unfold Program.pinnedFits
 rw [namedV]
 kernel_rfl
theorem pinL7_1 : Proofs.Tryz.prog.pinnedFits "unicode.CaseRanges" = true := by
 unfold Program.pinnedFits
 rw [namedV]
 kernel_rfl
theorem noOwnUnsafeL7 : Proofs.Tryz.prog.headLifts.contains "ownunsafe" = false := by kernel_rfl
theorem tieL7 : Proofs.Tryz.prog.laidByTextLater laidL7 [.data, .data, .data, .data, .data, .data, .sentinel, .sentinel] true :=
 Program.laidByTextLater_of_run 673 400 8 tw1 tw2 tw3 tkL7 namedV tnL7 tdL7 teL7 (fun os tape => map_and (tfL7 os tape) (tgL7 os tape)) (by kernel_rfl)
end Go.T9
