/- A part of the proof. -/
import Derived.Test.YtcplcanaonmmpaaGreatDoorGa
import Derived.Test.YtcplcanaonmmpaaGreatDoorGb
import Derived.Test.YtcplcanaonmmpaaGreatDoorL
set_option linter.unusedVariables false
set_option linter.unusedSimpArgs false
set_option maxRecDepth 1000000
namespace Go.T9
open Go Go.AM Go.FA
theorem clo_fuel : Nat.ble 1340 (1 + (leads.map fun l => l.length + 1).sum) = true := by kernel_rfl
theorem laidOut : laidOutB Proofs.Tryz.prog = true := by
 unfold laidOutB rowFine isVar Program.cellsOf Program.underlying
 rw [hT.1, hT.2, ← Array.all_toList, ← Array.all_toList]
 simp only [← Array.all_toList]
 kernel_rfl
theorem mapsRowed_ok : mapsRowed Proofs.Tryz.prog = true := by
 unfold mapsRowed Program.underlying
 rw [hT.1, hT.2]
 kernel_rfl
theorem heard : Proofs.Tryz.prog.stopsHeard = true := by
 unfold Program.stopsHeard
 rw [← Array.all_toList]
 kernel_rfl
theorem lays : Proofs.Tryz.prog.laysLater = false := by
 unfold Program.laysLater
 rw [← Array.any_toList]
 kernel_rfl
theorem mayEnter_ok : Proofs.Tryz.prog.mayEnter = true := by
 unfold Program.mayEnter
 rw [lays]
 kernel_rfl
theorem namedV : Proofs.Tryz.prog.funcNamed "gosem.cut.vars" = some 673 := funcNamed_of (by kernel_rfl)
theorem noGo : (Proofs.Tryz.prog.funcs.toList.all fun fn => !fn.goes) = true := by kernel_rfl
theorem own1 : ownKnob Proofs.Tryz.prog.godebug = none := by kernel_rfl
theorem looks1 : Proofs.Tryz.prog.looks [] = true := looks_of 149 Proofs.Tryz.func149 rfl (by kernel_rfl)
end Go.T9
