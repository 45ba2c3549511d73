/- A part of the proof. -/
import Derived.Test.YtplabpmicdbglaaGreatDoorTg
import Derived.Test.YtplabpmicdbglaaGreatDoorP5b
set_option maxRecDepth 1000000
namespace Go.T9
open Go Go.AM Go.FA Go.Proofs Go.Proofs.YtplabpmicdbglaaGreatDoor
theorem fits5 : Tryz.pinned.checked.prog.listedFits Rows.worldAreaIsTimeSpentRow.laid = true := by
  show Proofs.Tryz.prog.listedFits _ = true
  unfold Program.listedFits
  rw [noOwnUnsafeL5]
  kernel_rfl
theorem row_tie5 : Rows.worldAreaIsTimeSpentRow.laidByTextAt .later Tryz.pinned [.data, .pinned, .data, .data, .data, .pinned, .data, .data, .sentinel, .sentinel] true :=
  OpenClaim.laidByTextAt_pinned rfl rfl tieL5 rfl rfl rfl rfl (fun y hy _e => by
    simp only [Rows.worldAreaIsTimeSpentRow, List.zip_cons_cons, List.zip_nil_right, List.mem_cons, List.mem_nil_iff, or_false] at hy
    rcases hy with rfl | rfl | rfl | rfl | rfl | rfl | rfl | rfl | rfl | rfl
    · cases _e
    · exact ⟨pinL5_0, by kernel_rfl⟩
    · cases _e
    · cases _e
    · cases _e
    · exact ⟨pinL5_1, by kernel_rfl⟩
    · cases _e
    · cases _e
    · cases _e
    · cases _e) fits5
end Go.T9
