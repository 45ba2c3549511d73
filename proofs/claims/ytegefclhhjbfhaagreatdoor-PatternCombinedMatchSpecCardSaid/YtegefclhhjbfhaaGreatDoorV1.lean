/- A part of the proof. -/
import Derived.Test.YtegefclhhjbfhaaGreatDoorV0
set_option linter.unusedVariables false
set_option linter.unusedSimpArgs false
set_option maxRecDepth 1000000
namespace Go.T9
open Go Go.AM Go.MK Go.Proofs.Tryz
noncomputable section
def frM2:T Value:=(Ns (No (No (Sg (Value.pointer (some ⟨12,0,none⟩))) Lf) (Sg (Value.map (some 10)))) (Value.pointer (some ⟨0,0,none⟩)) (Ns (Ns (Sg (Vi 0)) (Value.pointer (some ⟨9,0,none⟩)) Lf) (Value.pointer (some ⟨8,0,none⟩)) (Sg (Value.slice (some ⟨11,0,none⟩) 1 1))))
def hM2:AH:=Kp
theorem jM2_nf(K:KF):jM2 K=(HF (Value.agg (Array.mk [Vi 0]))/\K frM2 hM2):=by kernel_rfl
def jM3(K:KF):Prop:=cloR env env1 100000 lLe (Func.ntmps f26) hLe0 1 [0,2,4,5,6,7,8] frM2 hM2 K
end
end Go.T9
