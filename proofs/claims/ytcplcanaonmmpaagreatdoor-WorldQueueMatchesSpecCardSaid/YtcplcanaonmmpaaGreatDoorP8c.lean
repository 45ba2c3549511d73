/- A part of the proof. -/
import Derived.Test.YtcplcanaonmmpaaGreatDoorTg
import Derived.Test.YtcplcanaonmmpaaGreatDoorP8b
set_option linter.unusedVariables false
set_option linter.unusedSimpArgs false
set_option maxRecDepth 1000000
namespace Go.T9
open Go Go.AM Go.FA Go.Proofs Go.Proofs.YtcplcanaonmmpaaGreatDoor
theorem fits8 : Tryz.pinned.checked.prog.listedFits Rows.worldQueueMatchesSpecRow.laid = true := by
 show Proofs.Tryz.prog.listedFits _ = true
 unfold Program.listedFits
 rw [noOwnUnsafeL7]
 kernel_rfl
theorem row_tie8 : Rows.worldQueueMatchesSpecRow.laidByTextAt .later Tryz.pinned [.data, .pinned, .data, .data, .data, .pinned, .data, .data, .sentinel, .sentinel] true :=
 OpenClaim.laidByTextAt_pinned rfl rfl tieL7 rfl rfl rfl rfl (fun y hy _e => by
  simp only [Rows.worldQueueMatchesSpecRow, List.zip_cons_cons, List.zip_nil_right, List.mem_cons, List.mem_nil_iff, or_false] at hy
  rcases hy with rfl | rfl | rfl | rfl | rfl | rfl | rfl | rfl | rfl | rfl
  · cases _e
  · exact ⟨pinL7_0, by kernel_rfl⟩
  · cases _e
  · cases _e
  · cases _e
  · exact ⟨pinL7_1, by kernel_rfl⟩
  · cases _e
  · cases _e
  · cases _e
  · cases _e) fits8
end Go.T9
