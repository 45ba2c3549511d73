/- A part of the proof. -/
import Derived.Test.YtcplcanaonmmpaaGreatDoorD
import Derived.KernelRfl
set_option linter.unusedVariables false
set_option linter.unusedSimpArgs false
set_option maxRecDepth 1000000
namespace Go.T9
open Go Go.AM Go.FA
theorem types_eq : Proofs.Tryz.prog.types.toList.map some = (List.range nT).map tiF.get := by kernel_rfl
theorem funcs_eq : Proofs.Tryz.prog.funcs.toList.map some = (List.range nF).map fnF.get := by kernel_rfl
theorem leads_ok : leads.map some = (List.range nF).map leadF.get := by kernel_rfl
theorem leadF_out : T.below leadF 1 0 nF = true := by kernel_rfl
theorem hT : Proofs.Tryz.prog.types.size = nT ∧ Proofs.Tryz.prog.info? = infoF Proofs.Tryz.prog nT tiF := info_eq types_eq
theorem hF : Proofs.Tryz.prog.funcs.size = nF ∧ ∀ f : Nat, Proofs.Tryz.prog.funcs[f]? = funcF nF fnF f := func_eq funcs_eq
end Go.T9
