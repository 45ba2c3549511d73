/- A part of the proof. -/
import Derived.Test.YtegefclhhjbfhaaGreatDoorGa
import Derived.Test.YtegefclhhjbfhaaGreatDoorL
import Derived.Test.YtegefclhhjbfhaaGreatDoorGc
set_option linter.unusedVariables false
set_option linter.unusedSimpArgs false
set_option maxRecDepth 1000000
namespace Go.T9
open Go Go.AM Go.FA Go.Proofs.Tryz
def books:List (Nat×Nat×List TypeId):=[(25,2,[25,3,22,23,4,49]),(3,0,[3]),(22,1,[22,4]),(23,2,[23,49,3]),(4,0,[4]),(49,1,[49,3]),(168,1,[168,109]),(109,0,[109]),(179,1,[179,5]),(5,0,[5]),(166,1,[166,5])]
theorem hBz:Proofs.Tryz.prog.book=FZ Proofs.Tryz.prog books:=z6 hT.1 books (by rw[wu];unfold Program.grow Program.partsOf Program.underlying;rw[hT.2];kernel_rfl)
noncomputable def clo4:Lg:=[4,10,19,32,24,42,44,45,75,43,74,33,67,48,46,68,69,50,26,52,76,77,96,95,78,79,23,12,25,47,49,51,14,29,56,80,97,98,105,81,112,57,113,124,116,126,88,114,127,131,132,128,130,117,115,125,106,118,82,58,84,85,99,83,30,59,60,61,86,87,89,62,64,63,65,90,91,92,101,102,100,107,31,66,6,20,5,16,36,71,93,103,108,109,120,119,121,110,111,122,123,129,37,72,94,104,38,17,18,8,22,15,34,35,70]
theorem FM:cloF leadF 268 [4] .leaf []=some clo4:=by kernel_rfl
theorem nq:Proofs.Tryz.prog.closure 4=clo4:=tV 268 nF zl zk (out_of vJ) zV FM
theorem named4:Proofs.Tryz.prog.funcNamed "dynamometer/dynamometerlaw3.PatternAlgebra" =some 4:=iY (by kernel_rfl)
theorem goes4:Proofs.Tryz.prog.goesAt .entering "dynamometer/dynamometerlaw3.PatternAlgebra" =false:=EU named4 noGo
theorem zv:Proofs.Tryz.prog.inPlace 4=["internal/bytealg.IndexByteString"]:=by unfold Program.inPlace;simp only[nq,hFz.2];kernel_rfl
theorem jD:Proofs.Tryz.prog.unfollowed 4=true:=by unfold Program.unfollowed;simp only[nq,hFz.2];kernel_rfl
theorem uS:Proofs.Tryz.prog.recurses 4=true:=pz jD
theorem sT:Proofs.Tryz.prog.varsNamed 4=["math/bits.deBruijn64tab", "internal/strconv.uint64pow10", "math/bits.deBruijn32tab"]:=by unfold Program.varsNamed;simp only[nq,hFz.2];kernel_rfl
end Go.T9
