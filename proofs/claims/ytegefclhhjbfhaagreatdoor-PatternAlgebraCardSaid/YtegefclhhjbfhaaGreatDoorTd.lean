/- A part of the proof. -/
import Derived.Test.YtegefclhhjbfhaaGreatDoorTa
set_option linter.unusedVariables false
set_option linter.unusedSimpArgs false
set_option maxRecDepth 1000000
namespace Go.T9
open Go Go.AM Go.FA Go.Proofs Go.Proofs.YtegefclhhjbfhaaGreatDoor Go.Proofs.Tryz
theorem teL4(os:Os)(a:Tape):(DataW.laidRun Proofs.Tryz.prog (varsWorld Proofs.Tryz.prog 400 154 os a).memory 8 (laidL4.map (·.1))).map (·.1)=some laidL4:=by kernel_rfl
theorem tfL4(os:Os)(a:Tape):(DataW.laidRun Proofs.Tryz.prog (varsWorld Proofs.Tryz.prog 400 154 os a).memory 8 (laidL4.map (·.1))).map (λx=>decide x.2.Nodup)=some true:=vA (by kernel_rfl)
theorem tgL4(os:Os)(a:Tape):(DataW.laidRun Proofs.Tryz.prog (varsWorld Proofs.Tryz.prog 400 154 os a).memory 8 (laidL4.map (·.1))).map (λx=>laidRowsB Proofs.Tryz.prog (varsWorld Proofs.Tryz.prog 400 154 os a).memory x.2)=some true:=by kernel_rfl
end Go.T9
