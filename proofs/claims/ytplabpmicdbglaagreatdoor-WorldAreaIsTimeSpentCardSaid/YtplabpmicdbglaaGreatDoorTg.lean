/- A part of the proof. -/
import Derived.Test.YtplabpmicdbglaaGreatDoorTa
import Derived.Test.YtplabpmicdbglaaGreatDoorTb
import Derived.Test.YtplabpmicdbglaaGreatDoorTc
import Derived.Test.YtplabpmicdbglaaGreatDoorTd
import Derived.Test.YtplabpmicdbglaaGreatDoorTe
import Derived.Test.YtplabpmicdbglaaGreatDoorTf
import Derived.SevenTiedAt
set_option maxRecDepth 1000000
namespace Go.T9
open Go Go.AM Go.FA Go.Proofs Go.Proofs.YtplabpmicdbglaaGreatDoor
theorem pinL5_0 : Proofs.Tryz.prog.pinnedFits "unicode/utf8.first" = true := by
  unfold Program.pinnedFits
  rw [namedV]
  kernel_rfl
theorem pinL5_1 : Proofs.Tryz.prog.pinnedFits "unicode.CaseRanges" = true := by
  unfold Program.pinnedFits
  rw [namedV]
  kernel_rfl
theorem noOwnUnsafeL5 : Proofs.Tryz.prog.headLifts.contains "ownunsafe" = false := by kernel_rfl
theorem tieL5 : Proofs.Tryz.prog.laidByTextLater laidL5 [.data, .data, .data, .data, .data, .data, .sentinel, .sentinel] true :=
  Program.laidByTextLater_of_run 704 400 8 tw1 tw2 tw3 tkL5 namedV tnL5 tdL5 teL5 (fun os tape => map_and (tfL5 os tape) (tgL5 os tape)) (by kernel_rfl)
end Go.T9
