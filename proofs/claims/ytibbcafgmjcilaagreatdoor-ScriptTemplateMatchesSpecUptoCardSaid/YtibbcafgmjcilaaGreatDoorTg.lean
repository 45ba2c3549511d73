/- A part of the proof. -/
import Derived.Test.YtibbcafgmjcilaaGreatDoorTa
import Derived.Test.YtibbcafgmjcilaaGreatDoorTb
import Derived.Test.YtibbcafgmjcilaaGreatDoorTc
import Derived.Test.YtibbcafgmjcilaaGreatDoorTd
import Derived.Test.YtibbcafgmjcilaaGreatDoorTe
import Derived.Test.YtibbcafgmjcilaaGreatDoorTf
import Derived.SevenTiedAt
set_option maxRecDepth 1000000
namespace Go.T9
open Go Go.AM Go.FA Go.Proofs Go.Proofs.YtibbcafgmjcilaaGreatDoor
theorem pinL5_0 : Proofs.Tryz.prog.pinnedFits "unicode/utf8.first" = true := by
  unfold Program.pinnedFits
  rw [namedV]
  kernel_rfl
theorem pinL5_1 : Proofs.Tryz.prog.pinnedFits "unicode.CaseRanges" = true := by
  unfold Program.pinnedFits
  rw [namedV]
  kernel_rfl
theorem noOwnUnsafeL5 : Proofs.Tryz.prog.headLifts.contains "ownunsafe" = false := by kernel_rfl
theorem tieL5 : Proofs.Tryz.prog.laidByTextLater laidL5 [.data, .sentinel, .sentinel, .data, .data, .data, .data, .data] true :=
  Program.laidByTextLater_of_run 352 400 8 tw1 tw2 tw3 tkL5 namedV tnL5 tdL5 teL5 (fun os tape => map_and (tfL5 os tape) (tgL5 os tape)) (by kernel_rfl)
end Go.T9
