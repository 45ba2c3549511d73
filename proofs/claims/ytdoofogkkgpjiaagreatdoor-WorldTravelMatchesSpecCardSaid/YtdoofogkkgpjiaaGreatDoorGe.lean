/- A part of the proof. -/
import Derived.Test.YtdoofogkkgpjiaaGreatDoorGc
import Derived.Test.YtdoofogkkgpjiaaGreatDoorL
set_option maxRecDepth 1000000
namespace Go.T8
open Go Go.AM Go.FA
theorem mayEnter_ok : Proofs.Tryz.prog.mayEnter = true := by
  unfold Program.mayEnter
  rw [lays]
  kernel_rfl
theorem noGo : (Proofs.Tryz.prog.funcs.toList.all fun fn => !fn.goes) = true := by kernel_rfl
theorem goes3 : Proofs.Tryz.prog.goesAt .entering "dynamometer/dynamometerlaw8.WorldTravelMatchesSpec" = false := goes_of named3 noGo
end Go.T8
