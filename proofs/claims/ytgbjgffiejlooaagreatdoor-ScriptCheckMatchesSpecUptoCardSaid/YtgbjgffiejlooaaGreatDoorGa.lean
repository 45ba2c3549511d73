/- A part of the proof. -/
import Derived.Test.YtgbjgffiejlooaaGreatDoorD
import Derived.KernelRfl
set_option linter.unusedVariables false
set_option linter.unusedSimpArgs false
set_option maxRecDepth 1000000
namespace Go.T9
open Go Go.AM Go.FA Go.Proofs.Tryz
theorem ql : Proofs.Tryz.prog.types.toList.map some = (List.range nT).map tiF.get := by kernel_rfl
theorem rZ : Proofs.Tryz.prog.funcs.toList.map some = (List.range nF).map fnF.get := by kernel_rfl
theorem rK : leads.map some = (List.range nF).map leadF.get := by kernel_rfl
theorem oU : T.below leadF 1 0 nF = true := by kernel_rfl
theorem hT : Proofs.Tryz.prog.types.size = nT ∧ Proofs.Tryz.prog.info? = rW Proofs.Tryz.prog nT tiF := yn ql
theorem hF : Proofs.Tryz.prog.funcs.size = nF ∧ ∀ f : Nat, Proofs.Tryz.prog.funcs[f]? = yC nF fnF f := yB rZ
end Go.T9
