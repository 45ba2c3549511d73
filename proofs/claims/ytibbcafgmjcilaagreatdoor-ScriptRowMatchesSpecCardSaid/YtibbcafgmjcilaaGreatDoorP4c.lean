/- A part of the proof. -/
import Derived.Test.YtibbcafgmjcilaaGreatDoorTg
import Derived.Test.YtibbcafgmjcilaaGreatDoorP4b
set_option maxRecDepth 1000000
namespace Go.T9
open Go Go.AM Go.FA Go.Proofs Go.Proofs.YtibbcafgmjcilaaGreatDoor
theorem fits4 : Tryz.pinned.checked.prog.listedFits Rows.scriptRowMatchesSpecRow.laid = true := by
  show Proofs.Tryz.prog.listedFits _ = true
  unfold Program.listedFits
  rw [noOwnUnsafeL4]
  kernel_rfl
theorem row_tie4 : Rows.scriptRowMatchesSpecRow.laidByTextAt .later Tryz.pinned [.pinned, .data, .sentinel, .sentinel, .data, .data, .data, .data, .data, .pinned] true :=
  OpenClaim.laidByTextAt_pinned rfl rfl tieL4 rfl rfl rfl rfl (fun y hy _e => by
    simp only [Rows.scriptRowMatchesSpecRow, List.zip_cons_cons, List.zip_nil_right, List.mem_cons, List.mem_nil_iff, or_false] at hy
    rcases hy with rfl | rfl | rfl | rfl | rfl | rfl | rfl | rfl | rfl | rfl
    · exact ⟨pinL4_0, by kernel_rfl⟩
    · cases _e
    · cases _e
    · cases _e
    · cases _e
    · cases _e
    · cases _e
    · cases _e
    · cases _e
    · exact ⟨pinL4_1, by kernel_rfl⟩) fits4
end Go.T9
