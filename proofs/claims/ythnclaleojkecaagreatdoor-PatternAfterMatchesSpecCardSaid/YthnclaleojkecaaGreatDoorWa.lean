/- A part of the proof. -/
import Derived.Test.YthnclaleojkecaaGreatDoorGa
import Derived.Test.YthnclaleojkecaaGreatDoorL
import Derived.Test.YthnclaleojkecaaGreatDoorRows
import Derived.LaidMore
import Derived.Lay
import Derived.ProofKit
import Derived.Stop.Joined
set_option linter.unusedVariables false
set_option linter.unusedSimpArgs false
set_option maxRecDepth 1000000
namespace Go.T9
open Go Go.AM Go.FA Go.Proofs Go.Proofs.YthnclaleojkecaaGreatDoor Go.Proofs.Tryz
theorem oB(os:Os):(World.holding Proofs.Tryz.prog os ⟨#[], #[],[]⟩).heap.size=9:=by kernel_rfl
noncomputable def wR(n:Nat):List (Nat×Lh)×List Obj:=([],[])
theorem tv(n:Nat):Lay.layList Proofs.Tryz.prog n []=some ([],[]):=by simp only[Lay.layList]
theorem tz(n:Nat):Lay.layList Proofs.Tryz.prog n []=some (wR n):=tv _
noncomputable def yAllL3:Option (List (Nat×Lh)×List Obj):=(Lay.layList Proofs.Tryz.prog 9 (Rows.patternReduceMatchesSpecRow.laid.take 3)).bind λy=>some (y.1++(wR (9+y.2.length)).1,y.2++(wR (9+y.2.length)).2)
theorem eK:Lay.layList Proofs.Tryz.prog 9 Rows.patternReduceMatchesSpecRow.laid=yAllL3:=by refine(Hu (Lay.layList Proofs.Tryz.prog 9) (IM 3 Rows.patternReduceMatchesSpecRow.laid).symm).trans ((fO _ _ _ _).trans ?_);refine Hu (Option.bind _) (funext λy=>?_);exact Hu (Option.map _) (tz (9+y.2.length))
theorem layFL3(os:Os):(World.holding Proofs.Tryz.prog os ⟨#[], #[],[]⟩).layFits Proofs.Tryz.prog Rows.patternReduceMatchesSpecRow.laid []=true:=tC (oB os) eK (by kernel_rfl)
theorem layIL3(os:Os):(World.holding Proofs.Tryz.prog os ⟨#[], #[],[]⟩).layIfaces Proofs.Tryz.prog Rows.patternReduceMatchesSpecRow.laid (World.laidAll Proofs.Tryz.prog os Rows.patternReduceMatchesSpecRow.laid)=true:=oy (oB os) eK (ig (oB os) eK) (by kernel_rfl)
end Go.T9
