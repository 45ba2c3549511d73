/- A part of the proof. -/
import Derived.Test.YtibbcafgmjcilaaGreatDoorGc
set_option maxRecDepth 1000000
namespace Go.T9
open Go Go.AM Go.FA
noncomputable def clo4 : List Nat := [4,11,8,25,49,50,80,26,32,33,60,95,12,9,27,51,52,28,10,29,53,81,62,97,151,82,63,119,163,61,96,150,83,121,120,122,124,164,123,126,167,193,165,191,166,192,215,216,217,125,54,84,127,55,85,86,128,129,172,111,130,168,169,170,134,131,173,194,218,247,267,268,195,219,248,220,221,250,269,282,289,290,109,301,302,291,292,303,304,308,309,249,222,171,132,133,135,56,87,6,20,45,21,46,71,72,110,73,36,13,34,64,112,158,179,205,240,262,181,206,263,180,113,159,182,207,208,114,160,183,184,209,241,264,242,265,202,229,252,270,185,210,243,266,281,68,186,211,75,74,30,57,88,137,136,89,138,139,140,141,142,90,91,58,31,59,92,143,93,147,43,69,176,177,203,230,231,232,253,233,254,271,255,273,284,286,272,283,256,257,274,67,108,285,293,294,305,295,153,154,296,306,307,310,297,298,299,300,275,238,261,280,258,276,277,287,278,288,279,234,204,235,236,237,259,260,239,94,144,174,175,196,223,224,225,197,226,251,198,227,199,200,228,201,145,146,148,149]
theorem clo4_ev : cloF leadF 640 [4] .leaf [] = some clo4 := by kernel_rfl
theorem closure4 : Proofs.Tryz.prog.closure 4 = clo4 := closure_of 640 nF leads_eq leads_ok (out_of leadF_out) clo_fuel clo4_ev
theorem named4 : Proofs.Tryz.prog.funcNamed "dynamometer/dynamometerlaw6.ScriptRowMatchesSpec" = some 4 := funcNamed_of (by kernel_rfl)
theorem goes4 : Proofs.Tryz.prog.goesAt .entering "dynamometer/dynamometerlaw6.ScriptRowMatchesSpec" = false := goes_of named4 noGo
theorem inPlace4 : Proofs.Tryz.prog.inPlace 4 = ["internal/bytealg.IndexByteString", "internal/abi.NoEscape", "internal/bytealg.IndexString", "internal/bytealg.CountString", "internal/bytealg.MakeNoZero", "internal/bytealg.abigen_runtime_cmpstring"] := by
  unfold Program.inPlace
  simp only [closure4, hF.2]
  kernel_rfl
theorem unfollowed4 : Proofs.Tryz.prog.unfollowed 4 = true := by
  unfold Program.unfollowed
  simp only [closure4, hF.2]
  kernel_rfl
theorem recurses4 : Proofs.Tryz.prog.recurses 4 = true := recurses_of unfollowed4
theorem varsNamed4 : Proofs.Tryz.prog.varsNamed 4 = ["unicode/utf8.first", "unicode/utf8.acceptRanges", "strconv.ErrSyntax", "strconv.ErrRange", "internal/strconv.uint64pow10", "math/bits.deBruijn32tab", "math/bits.deBruijn64tab", "unicode.asciiFold", "unicode.caseOrbit", "unicode.CaseRanges", "internal/bytealg.MaxLen"] := by
  unfold Program.varsNamed
  simp only [closure4, hF.2]
  kernel_rfl
end Go.T9
