/- A part of the proof. -/
import Derived.Test.YtgbjgffiejlooaaGreatDoorTg
import Derived.Test.YtgbjgffiejlooaaGreatDoorP3b
set_option linter.unusedVariables false
set_option linter.unusedSimpArgs false
set_option maxRecDepth 1000000
namespace Go.T9
open Go Go.AM Go.FA Go.Proofs Go.Proofs.YtgbjgffiejlooaaGreatDoor Go.Proofs.Tryz
theorem fits4 : Tryz.pinned.checked.prog.listedFits Rows.scriptAsksMatchSpecUptoRow.laid = true := by
 show Proofs.Tryz.prog.listedFits _ = true
 unfold Program.listedFits
 rw [iy]
 kernel_rfl
theorem row_tie4 : Rows.scriptAsksMatchSpecUptoRow.laidByTextAt .later Tryz.pinned [.pinned, .data, .data, .data, .pinned, .sentinel, .sentinel, .data, .data, .data] true :=
 OpenClaim.laidByTextAt_pinned rfl rfl tieL4 rfl rfl rfl rfl (fun y hy _e => by
  simp only [Rows.scriptAsksMatchSpecUptoRow, List.zip_cons_cons, List.zip_nil_right, List.mem_cons, List.mem_nil_iff, or_false] at hy
  rcases hy with rfl | rfl | rfl | rfl | rfl | rfl | rfl | rfl | rfl | rfl
  · exact ⟨wa, by kernel_rfl⟩
  · cases _e
  · cases _e
  · cases _e
  · exact ⟨v8, by kernel_rfl⟩
  · cases _e
  · cases _e
  · cases _e
  · cases _e
  · cases _e) fits4
end Go.T9
