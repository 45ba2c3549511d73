/- A part of the proof. -/
import Derived.Test.YtibbcafgmjcilaaGreatDoorGc
set_option maxRecDepth 1000000
namespace Go.T9
open Go Go.AM Go.FA
noncomputable def clo5 : List Nat := [5,13,34,61,96,150,62,97,151,25,49,50,80,63,64,14,35,65,98,27,51,52,15,36,37,38,67,108,109,66,99,105,157,100,152,101,153,154,102,155,156,178,103,104,106,107,40,39,16,41,17,18,42,43,68,69,19,44,70,10,29,53,81,82,119,163,83,121,120,122,124,164,123,126,167,193,165,191,166,192,215,216,217,125,54,84,127,55,85,86,128,129,172,111,130,168,169,170,134,131,173,194,218,247,267,268,195,219,248,220,221,250,269,282,289,290,301,302,291,292,303,304,308,309,249,222,171,132,133,135,56,87,6,20,45,21,46,71,72,110,73,112,158,179,205,240,262,181,206,263,180,113,159,182,207,208,114,160,183,184,209,241,264,242,265,202,229,252,270,185,210,243,266,281,186,211,75,74,30,57,88,8,26,137,136,89,138,139,140,141,142,90,91,58,31,59,92,143,93,147,176,177,203,230,231,232,253,233,254,271,255,273,284,286,272,283,256,257,274,285,293,294,305,295,296,306,307,310,297,298,299,300,275,238,261,280,258,276,277,287,278,288,279,234,204,235,236,237,259,260,239,94,144,174,175,196,223,224,225,197,226,251,198,227,199,200,228,201,145,33,60,95,146,32,148,149]
theorem clo5_ev : cloF leadF 640 [5] .leaf [] = some clo5 := by kernel_rfl
theorem closure5 : Proofs.Tryz.prog.closure 5 = clo5 := closure_of 640 nF leads_eq leads_ok (out_of leadF_out) clo_fuel clo5_ev
theorem named5 : Proofs.Tryz.prog.funcNamed "dynamometer/dynamometerlaw6.ScriptTemplateMatchesSpec" = some 5 := funcNamed_of (by kernel_rfl)
theorem goes5 : Proofs.Tryz.prog.goesAt .entering "dynamometer/dynamometerlaw6.ScriptTemplateMatchesSpec" = false := goes_of named5 noGo
theorem inPlace5 : Proofs.Tryz.prog.inPlace 5 = ["internal/abi.NoEscape", "internal/bytealg.IndexByteString", "internal/bytealg.IndexString", "internal/bytealg.CountString", "internal/bytealg.MakeNoZero", "internal/bytealg.abigen_runtime_cmpstring"] := by
  unfold Program.inPlace
  simp only [closure5, hF.2]
  kernel_rfl
theorem unfollowed5 : Proofs.Tryz.prog.unfollowed 5 = true := by
  unfold Program.unfollowed
  simp only [closure5, hF.2]
  kernel_rfl
theorem recurses5 : Proofs.Tryz.prog.recurses 5 = true := recurses_of unfollowed5
theorem varsNamed5 : Proofs.Tryz.prog.varsNamed 5 = ["unicode/utf8.first", "unicode/utf8.acceptRanges", "strconv.ErrSyntax", "strconv.ErrRange", "internal/strconv.uint64pow10", "math/bits.deBruijn32tab", "math/bits.deBruijn64tab", "unicode.asciiFold", "unicode.caseOrbit", "unicode.CaseRanges", "internal/bytealg.MaxLen"] := by
  unfold Program.varsNamed
  simp only [closure5, hF.2]
  kernel_rfl
end Go.T9
