/- A part of the proof. -/
import Derived.Test.YtgbjgffiejlooaaGreatDoorTg
import Derived.Test.YtgbjgffiejlooaaGreatDoorP3b
set_option linter.unusedVariables false
set_option linter.unusedSimpArgs false
set_option maxRecDepth 1000000
namespace Go.T9
open Go Go.AM Go.FA Go.Proofs Go.Proofs.YtgbjgffiejlooaaGreatDoor Go.Proofs.Tryz
theorem fits3 : Tryz.pinned.checked.prog.listedFits Rows.scriptCheckMatchesSpecUptoRow.laid = true := by
 show Proofs.Tryz.prog.listedFits _ = true
 unfold Program.listedFits
 rw [iK]
 kernel_rfl
theorem row_tie3 : Rows.scriptCheckMatchesSpecUptoRow.laidByTextAt .later Tryz.pinned [.pinned, .data, .data, .data, .pinned, .sentinel, .sentinel, .data, .data, .data] true :=
 OpenClaim.laidByTextAt_pinned rfl rfl tieL3 rfl rfl rfl rfl (fun y hy _e => by
  simp only [Rows.scriptCheckMatchesSpecUptoRow, List.zip_cons_cons, List.zip_nil_right, List.mem_cons, List.mem_nil_iff, or_false] at hy
  rcases hy with rfl | rfl | rfl | rfl | rfl | rfl | rfl | rfl | rfl | rfl
  · exact ⟨vU, by kernel_rfl⟩
  · cases _e
  · cases _e
  · cases _e
  · exact ⟨vT, by kernel_rfl⟩
  · cases _e
  · cases _e
  · cases _e
  · cases _e
  · cases _e) fits3
end Go.T9
