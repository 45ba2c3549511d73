/- A part of the proof. -/
import Derived.Test.YtgbjgffiejlooaaGreatDoorWa
import Derived.LaidMore
import Derived.Lay
import Derived.ProofKit
import Derived.Stop.Joined
set_option linter.unusedVariables false
set_option linter.unusedSimpArgs false
set_option maxRecDepth 1000000
namespace Go.T9
open Go Go.AM Go.FA Go.Proofs Go.Proofs.YtgbjgffiejlooaaGreatDoor Go.Proofs.Tryz
theorem restL4 (os : Os) : (((World.laidAll Proofs.Tryz.prog os Rows.scriptAsksMatchSpecUptoRow.laid).forCall (fun _ _ => 0) ⟨#[], #[.slice none 0 0], []⟩).heap.toList.drop Proofs.Tryz.prog.globals.size).take ((begin Proofs.Tryz.prog (fun _ _ => 0) default).world.heap.size - Proofs.Tryz.prog.globals.size) = (begin Proofs.Tryz.prog (fun _ _ => 0) default).world.heap.toList.drop Proofs.Tryz.prog.globals.size := vP (ez (jk os) cH) (by kernel_rfl)
end Go.T9
