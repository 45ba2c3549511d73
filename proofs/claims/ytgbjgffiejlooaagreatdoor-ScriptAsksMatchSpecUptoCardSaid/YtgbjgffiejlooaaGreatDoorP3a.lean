/- A part of the proof. -/
import Derived.Test.YtgbjgffiejlooaaGreatDoorGc
set_option linter.unusedVariables false
set_option linter.unusedSimpArgs false
set_option maxRecDepth 1000000
namespace Go.T9
open Go Go.AM Go.FA Go.Proofs.Tryz
noncomputable def clo4 : List Nat := [4,11,6,16,38,17,39,63,64,114,21,42,43,74,65,115,67,119,172,128,179,215,125,177,214,126,208,116,169,200,231,267,289,202,232,290,201,117,170,181,216,203,233,234,118,171,204,205,235,268,291,269,292,228,256,243,242,279,297,206,236,270,293,308,193,207,237,68,66,28,54,89,29,90,158,198,88,53,12,7,18,40,19,20,41,69,23,44,45,70,120,71,124,176,213,121,173,209,238,271,239,211,272,273,210,122,174,123,175,212,240,72,73,30,56,93,92,94,159,91,55,10,25,46,75,76,127,178,77,130,129,131,133,180,132,135,183,218,182,217,241,134,47,78,136,48,79,80,137,138,188,139,184,185,186,143,140,189,219,244,274,294,295,220,245,275,246,247,277,296,309,316,317,109,328,329,318,319,330,331,335,336,276,248,187,141,142,144,49,81,26,50,31,8,22,32,57,82,145,146,147,148,149,83,84,51,27,52,85,150,86,155,153,194,196,197,229,257,258,259,280,260,281,298,282,300,311,313,299,310,283,284,301,60,108,312,320,321,332,322,162,163,323,333,334,337,324,325,326,327,302,265,288,307,285,303,304,314,305,315,306,261,230,262,263,264,286,287,266,87,151,190,191,221,249,250,251,222,252,278,223,253,224,225,254,226,152,192,227,255,154,195,156,157]
theorem zF : cloF leadF 722 [4] .leaf [] = some clo4 := by kernel_rfl
theorem iK : Proofs.Tryz.prog.closure 4 = clo4 := mS 722 nF rr rq (out_of oC) se zF
theorem named4 : Proofs.Tryz.prog.funcNamed "dynamometer/dynamometerlaw6.ScriptAsksMatchSpec" = some 4 := eV (by kernel_rfl)
theorem goes4 : Proofs.Tryz.prog.goesAt .entering "dynamometer/dynamometerlaw6.ScriptAsksMatchSpec" = false := yZ named4 noGo
theorem rI : Proofs.Tryz.prog.inPlace 4 = ["internal/abi.NoEscape", "internal/bytealg.IndexByteString", "internal/bytealg.CountString", "internal/bytealg.IndexString", "internal/bytealg.MakeNoZero", "internal/bytealg.abigen_runtime_cmpstring"] := by
 unfold Program.inPlace
 simp only [iK, hF.2]
 kernel_rfl
theorem fB : Proofs.Tryz.prog.unfollowed 4 = true := by
 unfold Program.unfollowed
 simp only [iK, hF.2]
 kernel_rfl
theorem nO : Proofs.Tryz.prog.recurses 4 = true := jU fB
theorem mf : Proofs.Tryz.prog.varsNamed 4 = ["unicode/utf8.first", "unicode/utf8.acceptRanges", "unicode.asciiFold", "unicode.caseOrbit", "unicode.CaseRanges", "internal/bytealg.MaxLen", "strconv.ErrSyntax", "strconv.ErrRange", "internal/strconv.uint64pow10", "math/bits.deBruijn32tab", "math/bits.deBruijn64tab"] := by
 unfold Program.varsNamed
 simp only [iK, hF.2]
 kernel_rfl
end Go.T9
