/- A part of the proof. -/
import Derived.Test.YtdoofogkkgpjiaaGreatDoorGd
import Derived.Test.YtdoofogkkgpjiaaGreatDoorGe
import Derived.Test.YtdoofogkkgpjiaaGreatDoorRows
set_option maxRecDepth 1000000
namespace Go.T8
open Go Go.AM Go.FA Go.Proofs Go.Proofs.YtdoofogkkgpjiaaGreatDoor
theorem wf1 : Rows.worldTravelMatchesSpecRow.wf (OpenSpec.ofChange Rows.worldTravelMatchesSpecSpec) = true := by kernel_rfl
theorem wf2 : Rows.worldTravelMatchesSpecRow.wfByText (OpenSpec.ofChange Rows.worldTravelMatchesSpecSpec) = true := by kernel_rfl
theorem own1 : ownKnob Tryz.prog.godebug = none := by kernel_rfl
end Go.T8
set_option maxRecDepth 1000000
namespace Go.T8
open Go Go.AM Go.FA Go.Proofs Go.Proofs.YtdoofogkkgpjiaaGreatDoor
def books : List (Nat × Nat × List TypeId) := [(23, 1, [23, 3]), (3, 0, [3]), (4, 0, [4]), (653, 1, [653, 5]), (5, 0, [5]), (507, 1, [507, 5]), (510, 2, [510, 509, 5]), (509, 1, [509, 5]), (415, 1, [415, 414]), (414, 0, [414]), (416, 2, [416, 418, 414]), (418, 1, [418, 414]), (421, 3, [421, 514, 195, 512, 21]), (514, 2, [514, 195, 512, 21]), (195, 0, [195]), (512, 1, [512, 21]), (21, 0, [21]), (560, 1, [560, 78]), (78, 0, [78]), (652, 1, [652, 5]), (109, 0, [109])]
theorem hB : Tryz.prog.book = bookF Tryz.prog books := book_fun hT.1 books (by
  rw [grown_fun]
  unfold Program.grow Program.partsOf Program.underlying
  rw [hT.2]
  kernel_rfl)
theorem readable3 : (Tryz.f3.params.toList.all fun t => Tryz.prog.readableRec t && decide (t < Tryz.prog.types.size)) = true := by
  unfold Program.readableRec Program.fineRow Program.partsOf Program.cellsOf Program.underlying
  rw [hT.1, hT.2, hB]
  kernel_rfl
end Go.T8
set_option maxRecDepth 1000000
namespace Go.T8
open Go Go.AM Go.FA Go.Proofs Go.Proofs.YtdoofogkkgpjiaaGreatDoor
theorem joined : joinedFacts Tryz.prog 3 Tryz.f3 Rows.worldTravelMatchesSpecSpec Rows.worldTravelMatchesSpecRow = true := by
  unfold joinedFacts OpenClaim.veiledFits Program.veiledOwn Program.readableRec Program.fineRow Program.mapsRec Program.ifacesRec Program.loopsFrom Program.wideKeysFrom Program.veiledRec Program.partsOf Program.cellsOf Program.underlying
  rw [wf1, laidOut, mapsRowed_ok, heard, mayEnter_ok, inPlace3, unfollowed3, recurses3, varsNamed3, hT.1, hT.2, hB]
  kernel_rfl
end Go.T8
