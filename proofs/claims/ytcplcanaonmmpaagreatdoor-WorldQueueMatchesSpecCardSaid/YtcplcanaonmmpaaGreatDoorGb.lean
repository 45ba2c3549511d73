/- A part of the proof. -/
import Derived.Test.YtcplcanaonmmpaaGreatDoorD
import Derived.KernelRfl
set_option linter.unusedVariables false
set_option linter.unusedSimpArgs false
set_option maxRecDepth 1000000
namespace Go.T9
open Go Go.AM Go.FA
theorem leads_eq : Proofs.Tryz.prog.funcs.toList.map Proofs.Tryz.prog.leadsTo = leads := by kernel_rfl
end Go.T9
