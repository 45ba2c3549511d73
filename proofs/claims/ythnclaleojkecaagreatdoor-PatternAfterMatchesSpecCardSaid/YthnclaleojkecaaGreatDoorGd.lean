/- A part of the proof. -/
import Derived.Test.YthnclaleojkecaaGreatDoorGa
import Derived.Test.YthnclaleojkecaaGreatDoorL
import Derived.Test.YthnclaleojkecaaGreatDoorGc
set_option linter.unusedVariables false
set_option linter.unusedSimpArgs false
set_option maxRecDepth 1000000
namespace Go.T9
open Go Go.AM Go.FA Go.Proofs.Tryz
def books:List (Nat×Nat×List TypeId):=[(25,2,[25,3,22,23,4,37]),(3,0,[3]),(22,1,[22,4]),(23,2,[23,37,3]),(4,0,[4]),(37,1,[37,3]),(9,0,[9]),(160,1,[160,106]),(106,0,[106]),(171,1,[171,5]),(5,0,[5]),(158,1,[158,5])]
theorem hBz:Proofs.Tryz.prog.book=FY Proofs.Tryz.prog books:=Ad hT.1 books (by rw[wm];unfold Program.grow Program.partsOf Program.underlying;rw[hT.2];kernel_rfl)
noncomputable def clo4:Lg:=[4,11,5,15,17,18,31,16,30,28,22,36,37,35,38,40,39,23,41,57,58,77,76,59,60,7,19,32,55,74,84,89,90,101,100,102,91,92,103,104,110,88,33,56,75,85,34,20,21,12,6,29,24,42,43,44,13,14,10,25,45,61,78,79,86,62,93,46,94,105,97,107,69,95,108,112,113,109,111,98,96,106,87,99,63,47,65,66,80,64,26,48,49,50,67,68,70,51,53,52,54,71,72,73,82,83,81,27]
theorem FL:cloF leadF 228 [4] .leaf []=some clo4:=by kernel_rfl
theorem m9:Proofs.Tryz.prog.closure 4=clo4:=tY 228 nF zm zl (out_of vM) z4 FL
theorem named4:Proofs.Tryz.prog.funcNamed "dynamometer/dynamometerlaw3.PatternAfterMatchesSpec" =some 4:=iJ (by kernel_rfl)
theorem goes4:Proofs.Tryz.prog.goesAt .entering "dynamometer/dynamometerlaw3.PatternAfterMatchesSpec" =false:=EN named4 noGo
theorem zx:Proofs.Tryz.prog.inPlace 4=["internal/bytealg.IndexByteString"]:=by unfold Program.inPlace;simp only[m9,hFz.2];kernel_rfl
theorem jn:Proofs.Tryz.prog.unfollowed 4=true:=by unfold Program.unfollowed;simp only[m9,hFz.2];kernel_rfl
theorem uX:Proofs.Tryz.prog.recurses 4=true:=pz jn
theorem sU:Proofs.Tryz.prog.varsNamed 4=["internal/strconv.uint64pow10", "math/bits.deBruijn32tab", "math/bits.deBruijn64tab"]:=by unfold Program.varsNamed;simp only[m9,hFz.2];kernel_rfl
end Go.T9
