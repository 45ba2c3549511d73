/- A part of the proof. -/
import Derived.Test.YtdoofogkkgpjiaaGreatDoorTa
import Derived.Test.YtdoofogkkgpjiaaGreatDoorTb
import Derived.Test.YtdoofogkkgpjiaaGreatDoorTc
import Derived.Test.YtdoofogkkgpjiaaGreatDoorTd
import Derived.Test.YtdoofogkkgpjiaaGreatDoorTe
import Derived.Test.YtdoofogkkgpjiaaGreatDoorTf
import Derived.SevenTiedAt
set_option maxRecDepth 1000000
namespace Go.T8
open Go Go.AM Go.FA Go.Proofs Go.Proofs.YtdoofogkkgpjiaaGreatDoor
theorem pin1 : Tryz.prog.pinnedFits "unicode/utf8.first" = true := by
  unfold Program.pinnedFits
  rw [namedV]
  kernel_rfl
theorem pin2 : Tryz.prog.pinnedFits "unicode.CaseRanges" = true := by
  unfold Program.pinnedFits
  rw [namedV]
  kernel_rfl
theorem noOwnUnsafe : Tryz.prog.headLifts.contains "ownunsafe" = false := by kernel_rfl
theorem fits1 : Tryz.pinned.checked.prog.listedFits Rows.worldTravelMatchesSpecRow.laid = true := by
  show Tryz.prog.listedFits _ = true
  unfold Program.listedFits
  rw [noOwnUnsafe]
  kernel_rfl
theorem tie : Tryz.prog.laidByTextLater laidT [.data, .data, .data, .data, .data, .data, .sentinel, .sentinel] true :=
  Program.laidByTextLater_of_run 620 400 8 tw1 tw2 tw3 tk namedV tn td t1 (fun os tape => map_and (t2a os tape) (t2b os tape)) (by kernel_rfl)
theorem row_tie : Rows.worldTravelMatchesSpecRow.laidByTextAt .later Tryz.pinned [.data, .pinned, .data, .data, .data, .pinned, .data, .data, .sentinel, .sentinel] true :=
  OpenClaim.laidByTextAt_pinned rfl rfl tie rfl rfl rfl rfl (fun y hy _e => by
    simp only [Rows.worldTravelMatchesSpecRow, List.zip_cons_cons, List.zip_nil_right, List.mem_cons, List.mem_nil_iff, or_false] at hy
    rcases hy with rfl | rfl | rfl | rfl | rfl | rfl | rfl | rfl | rfl | rfl
    · cases _e
    · exact ⟨pin1, by kernel_rfl⟩
    · cases _e
    · cases _e
    · cases _e
    · exact ⟨pin2, by kernel_rfl⟩
    · cases _e
    · cases _e
    · cases _e
    · cases _e) fits1
end Go.T8
