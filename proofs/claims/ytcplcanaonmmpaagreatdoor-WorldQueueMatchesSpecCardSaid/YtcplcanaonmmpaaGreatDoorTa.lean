/- A part of the proof. -/
import Derived.Test.YtcplcanaonmmpaaGreatDoorGc
import Derived.Test.YtcplcanaonmmpaaGreatDoorL
import Derived.Test.YtcplcanaonmmpaaGreatDoorRows
import Derived.LaidByTextLater
set_option linter.unusedVariables false
set_option linter.unusedSimpArgs false
set_option maxRecDepth 1000000
namespace Go.T9
open Go Go.AM Go.FA Go.Proofs Go.Proofs.YtcplcanaonmmpaaGreatDoor
theorem tw1 : Proofs.Tryz.prog.worded (varsWordLater true) = true := by
 unfold Program.worded
 rw [← Array.any_toList]
 kernel_rfl
theorem tw2 : Proofs.Tryz.prog.worded (varsWordLater !true) = false := by
 unfold Program.worded
 rw [← Array.any_toList]
 kernel_rfl
theorem tw3 : Proofs.Tryz.prog.worded rootWordLater = true := by
 unfold Program.worded
 rw [← Array.any_toList]
 kernel_rfl
noncomputable def laidL7 : List (String × DataW Unit) := [("math/bits.deBruijn64tab", Rows.laid_math_bits_deBruijn64tab), ("unicode/utf8.acceptRanges", Rows.laid_unicode_utf8_acceptRanges), ("unicode.asciiFold", Rows.laid_unicode_asciiFold), ("unicode.caseOrbit", Rows.laid_unicode_caseOrbit), ("internal/strconv.uint64pow10", Rows.laid_internal_strconv_uint64pow10), ("math/bits.deBruijn32tab", Rows.laid_math_bits_deBruijn32tab), ("strconv.ErrSyntax", Rows.laid_strconv_ErrSyntax), ("strconv.ErrRange", Rows.laid_strconv_ErrRange)]
theorem tkL7 : laidL7.map (fun x => Proofs.Tryz.prog.kindOfLater x.1) = ([.data, .data, .data, .data, .data, .data, .sentinel, .sentinel] : List LaidKind).map some := by kernel_rfl
end Go.T9
