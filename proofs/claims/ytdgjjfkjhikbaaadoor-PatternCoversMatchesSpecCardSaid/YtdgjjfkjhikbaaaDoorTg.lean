/- A part of the proof. -/
import Derived.Test.YtdgjjfkjhikbaaaDoorTa
import Derived.Test.YtdgjjfkjhikbaaaDoorTb
import Derived.Test.YtdgjjfkjhikbaaaDoorTc
import Derived.Test.YtdgjjfkjhikbaaaDoorTd
import Derived.Test.YtdgjjfkjhikbaaaDoorTe
import Derived.Test.YtdgjjfkjhikbaaaDoorTf
import Derived.SevenTiedAt
set_option linter.unusedVariables false
set_option linter.unusedSimpArgs false
set_option maxRecDepth 1000000
namespace Go.T9
open Go Go.AM Go.FA Go.Proofs Go.Proofs.YtdgjjfkjhikbaaaDoor
theorem noOwnUnsafeL4 : Proofs.Tryd.prog.headLifts.contains "ownunsafe" = false := by kernel_rfl
theorem tieL4 : Proofs.Tryd.prog.laidByTextLater laidL4 [.data] true :=
 Program.laidByTextLater_of_run 131 400 8 tw1 tw2 tw3 tkL4 namedV tnL4 tdL4 teL4 (fun os tape => map_and (tfL4 os tape) (tgL4 os tape)) (by kernel_rfl)
end Go.T9
