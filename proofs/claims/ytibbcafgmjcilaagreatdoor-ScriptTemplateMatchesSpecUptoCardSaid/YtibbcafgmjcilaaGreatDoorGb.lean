/- A part of the proof. -/
import Derived.Test.YtibbcafgmjcilaaGreatDoorD
import Derived.KernelRfl
set_option maxRecDepth 1000000
namespace Go.T9
open Go Go.AM Go.FA
theorem leads_eq : Proofs.Tryz.prog.funcs.toList.map Proofs.Tryz.prog.leadsTo = leads := by kernel_rfl
end Go.T9
