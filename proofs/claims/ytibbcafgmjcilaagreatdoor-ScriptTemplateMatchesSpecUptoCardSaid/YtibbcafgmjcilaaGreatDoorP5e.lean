/- A part of the proof. -/
import Derived.Test.YtibbcafgmjcilaaGreatDoorWa
import Derived.LaidMore
import Derived.Lay
import Derived.ProofKit
import Derived.Stop.Joined
set_option maxRecDepth 1000000
namespace Go.T9
open Go Go.AM Go.FA Go.Proofs Go.Proofs.YtibbcafgmjcilaaGreatDoor
theorem restL5 (os : Os) : (((World.laidAll Proofs.Tryz.prog os Rows.scriptTemplateMatchesSpecUptoRow.laid).forCall (fun _ _ => 0) ⟨#[], #[.string .empty, .slice none 0 0], []⟩).heap.toList.drop Proofs.Tryz.prog.globals.size).take ((begin Proofs.Tryz.prog (fun _ _ => 0) default).world.heap.size - Proofs.Tryz.prog.globals.size) = (begin Proofs.Tryz.prog (fun _ _ => 0) default).world.heap.toList.drop Proofs.Tryz.prog.globals.size := rest_of (laidAll_eq (heapL5 os) yAll_eqL5) (by kernel_rfl)
end Go.T9
