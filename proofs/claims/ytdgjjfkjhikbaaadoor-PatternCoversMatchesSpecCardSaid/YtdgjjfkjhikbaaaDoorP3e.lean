/- A part of the proof. -/
import Derived.Test.YtdgjjfkjhikbaaaDoorWa
import Derived.LaidMore
import Derived.Lay
import Derived.ProofKit
import Derived.Stop.Joined
set_option linter.unusedVariables false
set_option linter.unusedSimpArgs false
set_option maxRecDepth 1000000
namespace Go.T9
open Go Go.AM Go.FA Go.Proofs Go.Proofs.YtdgjjfkjhikbaaaDoor
theorem restL4 (os : Os) : (((World.laidAll Proofs.Tryd.prog os Rows.patternCoversMatchesSpecRow.laid).forCall (fun _ _ => 0) ⟨#[], #[.agg #[.int .i64 0, .slice none 0 0, .slice none 0 0], .agg #[.int .i64 0, .slice none 0 0, .slice none 0 0], .string .empty], []⟩).heap.toList.drop Proofs.Tryd.prog.globals.size).take ((begin Proofs.Tryd.prog (fun _ _ => 0) default).world.heap.size - Proofs.Tryd.prog.globals.size) = (begin Proofs.Tryd.prog (fun _ _ => 0) default).world.heap.toList.drop Proofs.Tryd.prog.globals.size := rest_of (laidAll_eq (heapL4 os) yAll_eqL4) (by kernel_rfl)
end Go.T9
