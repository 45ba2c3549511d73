/- A part of the proof. -/
import Derived.Test.YtgbjgffiejlooaaGreatDoorD
import Derived.KernelRfl
set_option linter.unusedVariables false
set_option linter.unusedSimpArgs false
set_option maxRecDepth 1000000
namespace Go.T9
open Go Go.AM Go.FA Go.Proofs.Tryz
theorem pY : Proofs.Tryz.prog.types.toList.map some = (List.range nT).map tiF.get := by kernel_rfl
theorem rJ : Proofs.Tryz.prog.funcs.toList.map some = (List.range nF).map fnF.get := by kernel_rfl
theorem rq : leads.map some = (List.range nF).map leadF.get := by kernel_rfl
theorem oC : T.below leadF 1 0 nF = true := by kernel_rfl
theorem hT : Proofs.Tryz.prog.types.size = nT ∧ Proofs.Tryz.prog.info? = rG Proofs.Tryz.prog nT tiF := yR pY
theorem hF : Proofs.Tryz.prog.funcs.size = nF ∧ ∀ f : Nat, Proofs.Tryz.prog.funcs[f]? = y6 nF fnF f := y5 rJ
end Go.T9
