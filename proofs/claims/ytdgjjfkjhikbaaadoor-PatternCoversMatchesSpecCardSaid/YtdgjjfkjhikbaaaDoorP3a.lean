/- A part of the proof. -/
import Derived.Test.YtdgjjfkjhikbaaaDoorGc
set_option linter.unusedVariables false
set_option linter.unusedSimpArgs false
set_option maxRecDepth 1000000
namespace Go.T9
open Go Go.AM Go.FA
noncomputable def clo4 : List Nat := [4,11,32,29,59,61,62,89,60,88,33,63,64,23,65,67,66,34,35,68,12,36,39,38,69,37,9,30,13,40,14,41,70,71,72,15,8,28,57,85,93,94,95,86,97,58,98,104,101,106,51,99,107,110,111,108,109,102,100,105,96,103,87,18,47,48,77,46,6,19,20,21,49,50,52,22,25,24,26,53,54,55,79,80,78,90,27,56,81,82,92,91,83,84]
theorem clo4_ev : cloF leadF 240 [4] .leaf [] = some clo4 := by kernel_rfl
theorem closure4 : Proofs.Tryd.prog.closure 4 = clo4 := closure_of 240 nF leads_eq leads_ok (out_of leadF_out) clo_fuel clo4_ev
theorem named4 : Proofs.Tryd.prog.funcNamed "dynamometer/dynamometerlaw3.PatternCoversMatchesSpec" = some 4 := funcNamed_of (by kernel_rfl)
theorem goes4 : Proofs.Tryd.prog.goesAt .entering "dynamometer/dynamometerlaw3.PatternCoversMatchesSpec" = false := goes_of named4 noGo
theorem inPlace4 : Proofs.Tryd.prog.inPlace 4 = ["internal/bytealg.IndexByteString"] := by
 unfold Program.inPlace
 simp only [closure4, hF.2]
 kernel_rfl
theorem unfollowed4 : Proofs.Tryd.prog.unfollowed 4 = true := by
 unfold Program.unfollowed
 simp only [closure4, hF.2]
 kernel_rfl
theorem recurses4 : Proofs.Tryd.prog.recurses 4 = true := recurses_of unfollowed4
theorem varsNamed4 : Proofs.Tryd.prog.varsNamed 4 = ["math/bits.deBruijn64tab"] := by
 unfold Program.varsNamed
 simp only [closure4, hF.2]
 kernel_rfl
end Go.T9
