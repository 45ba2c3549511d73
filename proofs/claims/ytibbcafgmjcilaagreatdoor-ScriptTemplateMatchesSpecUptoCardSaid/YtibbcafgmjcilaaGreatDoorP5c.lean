/- A part of the proof. -/
import Derived.Test.YtibbcafgmjcilaaGreatDoorTg
import Derived.Test.YtibbcafgmjcilaaGreatDoorP5b
set_option maxRecDepth 1000000
namespace Go.T9
open Go Go.AM Go.FA Go.Proofs Go.Proofs.YtibbcafgmjcilaaGreatDoor
theorem fits5 : Tryz.pinned.checked.prog.listedFits Rows.scriptTemplateMatchesSpecUptoRow.laid = true := by
  show Proofs.Tryz.prog.listedFits _ = true
  unfold Program.listedFits
  rw [noOwnUnsafeL5]
  kernel_rfl
theorem row_tie5 : Rows.scriptTemplateMatchesSpecUptoRow.laidByTextAt .later Tryz.pinned [.pinned, .data, .sentinel, .sentinel, .data, .data, .data, .data, .data, .pinned] true :=
  OpenClaim.laidByTextAt_pinned rfl rfl tieL5 rfl rfl rfl rfl (fun y hy _e => by
    simp only [Rows.scriptTemplateMatchesSpecUptoRow, List.zip_cons_cons, List.zip_nil_right, List.mem_cons, List.mem_nil_iff, or_false] at hy
    rcases hy with rfl | rfl | rfl | rfl | rfl | rfl | rfl | rfl | rfl | rfl
    · exact ⟨pinL5_0, by kernel_rfl⟩
    · cases _e
    · cases _e
    · cases _e
    · cases _e
    · cases _e
    · cases _e
    · cases _e
    · cases _e
    · exact ⟨pinL5_1, by kernel_rfl⟩) fits5
end Go.T9
