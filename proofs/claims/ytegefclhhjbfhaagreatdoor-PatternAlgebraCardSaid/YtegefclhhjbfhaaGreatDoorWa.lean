/- A part of the proof. -/
import Derived.Test.YtegefclhhjbfhaaGreatDoorGa
import Derived.Test.YtegefclhhjbfhaaGreatDoorL
import Derived.Test.YtegefclhhjbfhaaGreatDoorRows
import Derived.LaidMore
import Derived.Lay
import Derived.ProofKit
import Derived.Stop.Joined
set_option linter.unusedVariables false
set_option linter.unusedSimpArgs false
set_option maxRecDepth 1000000
namespace Go.T9
open Go Go.AM Go.FA Go.Proofs Go.Proofs.YtegefclhhjbfhaaGreatDoor Go.Proofs.Tryz
theorem oC(os:Os):(World.holding Proofs.Tryz.prog os ⟨#[], #[],[]⟩).heap.size=9:=by kernel_rfl
noncomputable def wW(n:Nat):List (Nat×Lh)×List Obj:=([],[])
theorem tt(n:Nat):Lay.layList Proofs.Tryz.prog n []=some ([],[]):=by simp only[Lay.layList]
theorem tu(n:Nat):Lay.layList Proofs.Tryz.prog n []=some (wW n):=tt _
noncomputable def yAllL4:Option (List (Nat×Lh)×List Obj):=(Lay.layList Proofs.Tryz.prog 9 (Rows.patternAlgebraRow.laid.take 3)).bind λy=>some (y.1++(wW (9+y.2.length)).1,y.2++(wW (9+y.2.length)).2)
theorem eJ:Lay.layList Proofs.Tryz.prog 9 Rows.patternAlgebraRow.laid=yAllL4:=by refine(HD (Lay.layList Proofs.Tryz.prog 9) (I9 3 Rows.patternAlgebraRow.laid).symm).trans ((fT _ _ _ _).trans ?_);refine HD (Option.bind _) (funext λy=>?_);exact HD (Option.map _) (tu (9+y.2.length))
theorem layFL4(os:Os):(World.holding Proofs.Tryz.prog os ⟨#[], #[],[]⟩).layFits Proofs.Tryz.prog Rows.patternAlgebraRow.laid []=true:=tv (oC os) eJ (by kernel_rfl)
theorem layIL4(os:Os):(World.holding Proofs.Tryz.prog os ⟨#[], #[],[]⟩).layIfaces Proofs.Tryz.prog Rows.patternAlgebraRow.laid (World.laidAll Proofs.Tryz.prog os Rows.patternAlgebraRow.laid)=true:=oB (oC os) eJ (iB (oC os) eJ) (by kernel_rfl)
end Go.T9
