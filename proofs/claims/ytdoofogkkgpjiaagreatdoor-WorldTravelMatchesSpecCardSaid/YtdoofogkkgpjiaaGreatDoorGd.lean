/- A part of the proof. -/
import Derived.Test.YtdoofogkkgpjiaaGreatDoorGc
set_option maxRecDepth 1000000
namespace Go.T8
open Go Go.AM Go.FA
theorem inPlace3 : Proofs.Tryz.prog.inPlace 3 = ["internal/bytealg.IndexByteString", "internal/bytealg.IndexString", "internal/bytealg.abigen_runtime_cmpstring", "internal/abi.NoEscape", "internal/bytealg.MakeNoZero", "internal/bytealg.CountString", "maps.clone"] := by
  unfold Program.inPlace
  simp only [closure3, hF.2]
  kernel_rfl
theorem unfollowed3 : Proofs.Tryz.prog.unfollowed 3 = true := by
  unfold Program.unfollowed
  simp only [closure3, hF.2]
  kernel_rfl
theorem recurses3 : Proofs.Tryz.prog.recurses 3 = true := recurses_of unfollowed3
theorem varsNamed3 : Proofs.Tryz.prog.varsNamed 3 = ["math/bits.divideError", "math/bits.overflowError", "math/bits.deBruijn64tab", "unicode/utf8.first", "unicode/utf8.acceptRanges", "internal/bytealg.MaxLen", "unicode.asciiFold", "unicode.caseOrbit", "unicode.CaseRanges", "internal/strconv.uint64pow10", "math/bits.deBruijn32tab", "strconv.ErrSyntax", "strconv.ErrRange"] := by
  unfold Program.varsNamed
  simp only [closure3, hF.2]
  kernel_rfl
end Go.T8
