/- A part of the proof. -/
import Derived.Test.YtgbjgffiejlooaaGreatDoorGc
import Derived.Test.YtgbjgffiejlooaaGreatDoorL
import Derived.Test.YtgbjgffiejlooaaGreatDoorRows
import Derived.LaidByTextLater
set_option linter.unusedVariables false
set_option linter.unusedSimpArgs false
set_option maxRecDepth 1000000
namespace Go.T9
open Go Go.AM Go.FA Go.Proofs Go.Proofs.YtgbjgffiejlooaaGreatDoor Go.Proofs.Tryz
theorem tw1 : Proofs.Tryz.prog.worded (varsWordLater true) = true := by
 unfold Program.worded
 rw [← Array.any_toList]
 kernel_rfl
theorem tw2 : Proofs.Tryz.prog.worded (varsWordLater !true) = false := by
 unfold Program.worded
 rw [← Array.any_toList]
 kernel_rfl
theorem tw3 : Proofs.Tryz.prog.worded rootWordLater = true := by
 unfold Program.worded
 rw [← Array.any_toList]
 kernel_rfl
noncomputable def laidL4 : List (String × DataW Unit) := [("unicode/utf8.acceptRanges", Rows.laid_unicode_utf8_acceptRanges), ("unicode.asciiFold", Rows.laid_unicode_asciiFold), ("unicode.caseOrbit", Rows.laid_unicode_caseOrbit), ("strconv.ErrSyntax", Rows.laid_strconv_ErrSyntax), ("strconv.ErrRange", Rows.laid_strconv_ErrRange), ("internal/strconv.uint64pow10", Rows.laid_internal_strconv_uint64pow10), ("math/bits.deBruijn32tab", Rows.laid_math_bits_deBruijn32tab), ("math/bits.deBruijn64tab", Rows.laid_math_bits_deBruijn64tab)]
theorem tkL4 : laidL4.map (fun x => Proofs.Tryz.prog.kindOfLater x.1) = ([.data, .data, .data, .sentinel, .sentinel, .data, .data, .data] : List LaidKind).map some := by kernel_rfl
end Go.T9
