/- A part of the proof. -/
import Derived.Test.YthnclaleojkecaaGreatDoorTa
set_option linter.unusedVariables false
set_option linter.unusedSimpArgs false
set_option maxRecDepth 1000000
namespace Go.T9
open Go Go.AM Go.FA Go.Proofs Go.Proofs.YthnclaleojkecaaGreatDoor Go.Proofs.Tryz
theorem teL3(os:Os)(a:Tape):(DataW.laidRun Proofs.Tryz.prog (varsWorld Proofs.Tryz.prog 400 136 os a).memory 8 (laidL3.map (·.1))).map (·.1)=some laidL3:=by kernel_rfl
theorem tfL3(os:Os)(a:Tape):(DataW.laidRun Proofs.Tryz.prog (varsWorld Proofs.Tryz.prog 400 136 os a).memory 8 (laidL3.map (·.1))).map (λx=>decide x.2.Nodup)=some true:=vD (by kernel_rfl)
theorem tgL3(os:Os)(a:Tape):(DataW.laidRun Proofs.Tryz.prog (varsWorld Proofs.Tryz.prog 400 136 os a).memory 8 (laidL3.map (·.1))).map (λx=>laidRowsB Proofs.Tryz.prog (varsWorld Proofs.Tryz.prog 400 136 os a).memory x.2)=some true:=by kernel_rfl
end Go.T9
