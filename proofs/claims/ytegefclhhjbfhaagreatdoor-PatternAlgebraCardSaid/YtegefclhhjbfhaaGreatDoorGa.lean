/- A part of the proof. -/
import Derived.Test.YtegefclhhjbfhaaGreatDoorD
import Derived.KernelRfl
set_option linter.unusedVariables false
set_option linter.unusedSimpArgs false
set_option maxRecDepth 1000000
namespace Go.T9
open Go Go.AM Go.FA Go.Proofs.Tryz
theorem yd:Proofs.Tryz.prog.types.toList.map some=(List.range nT).map tiF.get:=by kernel_rfl
theorem zF:Proofs.Tryz.prog.funcs.toList.map some=(List.range nF).map fnF.get:=by kernel_rfl
theorem zk:leads.map some=(List.range nF).map leadF.get:=by kernel_rfl
theorem vJ:T.below leadF 1 0 nF=true:=by kernel_rfl
theorem hT:Proofs.Tryz.prog.types.size=nT/\Proofs.Tryz.prog.info? =Et Proofs.Tryz.prog nT tiF:=Es yd
theorem hFz:Proofs.Tryz.prog.funcs.size=nF/\∀ f:Nat,Proofs.Tryz.prog.funcs[f]? =EZ nF fnF f:=EY zF
theorem zl:Proofs.Tryz.prog.funcs.toList.map Proofs.Tryz.prog.leadsTo=leads:=by kernel_rfl
end Go.T9
