/- A part of the proof. -/
import Derived.Test.YtdgjjfkjhikbaaaDoorGc
import Derived.Test.YtdgjjfkjhikbaaaDoorL
import Derived.Test.YtdgjjfkjhikbaaaDoorRows
import Derived.LaidByTextLater
set_option linter.unusedVariables false
set_option linter.unusedSimpArgs false
set_option maxRecDepth 1000000
namespace Go.T9
open Go Go.AM Go.FA Go.Proofs Go.Proofs.YtdgjjfkjhikbaaaDoor
theorem tw1 : Proofs.Tryd.prog.worded (varsWordLater true) = true := by
 unfold Program.worded
 rw [← Array.any_toList]
 kernel_rfl
theorem tw2 : Proofs.Tryd.prog.worded (varsWordLater !true) = false := by
 unfold Program.worded
 rw [← Array.any_toList]
 kernel_rfl
theorem tw3 : Proofs.Tryd.prog.worded rootWordLater = true := by
 unfold Program.worded
 rw [← Array.any_toList]
 kernel_rfl
noncomputable def laidL4 : List (String × DataW Unit) := [("math/bits.deBruijn64tab", Rows.laid_math_bits_deBruijn64tab)]
theorem tkL4 : laidL4.map (fun x => Proofs.Tryd.prog.kindOfLater x.1) = ([.data] : List LaidKind).map some := by kernel_rfl
end Go.T9
