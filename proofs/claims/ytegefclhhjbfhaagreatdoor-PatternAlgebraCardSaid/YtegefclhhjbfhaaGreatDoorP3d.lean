/- A part of the proof. -/
import Derived.Test.YtegefclhhjbfhaaGreatDoorWa
import Derived.LaidMore
import Derived.Lay
import Derived.ProofKit
import Derived.Stop.Joined
set_option linter.unusedVariables false
set_option linter.unusedSimpArgs false
set_option maxRecDepth 1000000
namespace Go.T9
open Go Go.AM Go.FA Go.Proofs Go.Proofs.YtegefclhhjbfhaaGreatDoor Go.Proofs.Tryz
theorem zipL4(os:Os):((World.laidAll Proofs.Tryz.prog os Rows.patternAlgebraRow.laid).forCall (λ_ _=>0) ⟨#[], #[.agg #[.int .i64 0,.slice none 0 0,.slice none 0 0],.agg #[.int .i64 0,.slice none 0 0,.slice none 0 0]],[]⟩).variablesZipB Proofs.Tryz.prog=true:=zip_of (iB (oC os) eJ) (by kernel_rfl)
theorem restL4(os:Os):(((World.laidAll Proofs.Tryz.prog os Rows.patternAlgebraRow.laid).forCall (λ_ _=>0) ⟨#[], #[.agg #[.int .i64 0,.slice none 0 0,.slice none 0 0],.agg #[.int .i64 0,.slice none 0 0,.slice none 0 0]],[]⟩).heap.toList.drop Proofs.Tryz.prog.globals.size).take ((begin Proofs.Tryz.prog (λ_ _=>0) default).world.heap.size-Proofs.Tryz.prog.globals.size)=(begin Proofs.Tryz.prog (λ_ _=>0) default).world.heap.toList.drop Proofs.Tryz.prog.globals.size:=CZ (iB (oC os) eJ) (by kernel_rfl)
end Go.T9
