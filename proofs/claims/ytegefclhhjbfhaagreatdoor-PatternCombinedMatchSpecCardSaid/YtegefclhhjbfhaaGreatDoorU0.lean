/- A part of the proof. -/
import Derived.Test.YtegefclhhjbfhaaGreatDoorX4
import Derived.Test.YtegefclhhjbfhaaGreatDoorF2
set_option linter.unusedVariables false
set_option linter.unusedSimpArgs false
set_option maxRecDepth 1000000
namespace Go.T9
open Go Go.AM Go.MK
noncomputable section
theorem twin:TwinE env env1:=⟨qh,rfl,wZ,rfl,fun a h=>h⟩
def jSrd(Q:Value->AH->Prop):Prop:=cloF env env1 100000 29 [.string (av [97,42,98])] ⟨.leaf,0⟩ (endF env ⟨.leaf,0⟩ [] [] [] Q)
end
end Go.T9
namespace Go.T9
open Go Go.AM Go.MK Go.Proofs.Tryz
noncomputable section
def exB:Value:=.agg ⟨[.int .i64 4,.slice none 0 0,.int .i64 0,.int .i64 0,.slice (some ⟨0,0,none⟩) 2 2]⟩
def exO:List AObj:=[.cells [.int .i64 6,.slice none 0 0,.int .i64 0,.int .i64 (-1),.slice (some ⟨1,0,none⟩) 1 1,.int .i64 3,.slice (some ⟨2,0,none⟩) 1 unk,.int .i64 0,.int .i64 0,.slice none 0 0] 57,.cells [.int .i64 3,.slice (some ⟨3,0,none⟩) 1 unk,.int .i64 0,.int .i64 0,.slice none 0 0] 57,.cells [.int .i64 98,.int .i64 98] 139,.cells [.int .i64 97,.int .i64 97] 139]
def hL0:AH:=aQ exO
def frL0:T Value:=(Sg (exB))
def jL1(K:KF):Prop:=cloV env env1 100000 (ay f30) 9 (Func.ntmps f30) hL0 [2,5,6,7,8,13] frL0 hL0 K
end
end Go.T9
