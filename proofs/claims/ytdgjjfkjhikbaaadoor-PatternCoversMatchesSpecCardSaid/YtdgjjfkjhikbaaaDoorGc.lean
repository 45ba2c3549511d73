/- A part of the proof. -/
import Derived.Test.YtdgjjfkjhikbaaaDoorGa
import Derived.Test.YtdgjjfkjhikbaaaDoorGb
import Derived.Test.YtdgjjfkjhikbaaaDoorL
set_option linter.unusedVariables false
set_option linter.unusedSimpArgs false
set_option maxRecDepth 1000000
namespace Go.T9
open Go Go.AM Go.FA
theorem clo_fuel : Nat.ble 240 (1 + (leads.map fun l => l.length + 1).sum) = true := by kernel_rfl
theorem laidOut : laidOutB Proofs.Tryd.prog = true := by
 unfold laidOutB rowFine isVar Program.cellsOf Program.underlying
 rw [hT.1, hT.2, ← Array.all_toList, ← Array.all_toList]
 simp only [← Array.all_toList]
 kernel_rfl
theorem mapsRowed_ok : mapsRowed Proofs.Tryd.prog = true := by
 unfold mapsRowed Program.underlying
 rw [hT.1, hT.2]
 kernel_rfl
theorem heard : Proofs.Tryd.prog.stopsHeard = true := by
 unfold Program.stopsHeard
 rw [← Array.all_toList]
 kernel_rfl
theorem lays : Proofs.Tryd.prog.laysLater = false := by
 unfold Program.laysLater
 rw [← Array.any_toList]
 kernel_rfl
theorem mayEnter_ok : Proofs.Tryd.prog.mayEnter = true := by
 unfold Program.mayEnter
 rw [lays]
 kernel_rfl
theorem namedV : Proofs.Tryd.prog.funcNamed "gosem.cut.vars" = some 131 := funcNamed_of (by kernel_rfl)
theorem noGo : (Proofs.Tryd.prog.funcs.toList.all fun fn => !fn.goes) = true := by kernel_rfl
theorem own1 : ownKnob Proofs.Tryd.prog.godebug = none := by kernel_rfl
theorem looks1 : Proofs.Tryd.prog.looks [] = false := by
 unfold Program.looks
 rw [hF.1]
 simp only [hF.2]
 kernel_rfl
end Go.T9
