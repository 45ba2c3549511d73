/- A part of the proof. -/
import Derived.Test.YtegefclhhjbfhaaGreatDoorU0
set_option linter.unusedVariables false
set_option linter.unusedSimpArgs false
set_option maxRecDepth 1000000
namespace Go.T9
open Go Go.AM Go.MK Go.Proofs.Tryz
noncomputable section
def frL1:T Value:=(Nd (Nd (Nd (Nd Lf (some (Vi 6)) Lf) none Lf) none (Nd Lf (some (Value.pointer (some ⟨5,0,none⟩))) (Nd Lf (some (Value.pointer (some ⟨7,0,none⟩))) Lf))) none (Nd (Nd (Nd Lf (some (Value.pointer (some ⟨6,0,none⟩))) Lf) none Lf) (some (Value.pointer (some ⟨4,0,none⟩))) (Nd Lf (some (Vi 0)) Lf)))
def hLs1:AH:=(AH.mk (Nd (Nd (Nd (Nd (Nd Lf (some (AObj.cells [Vi 1] 3)) Lf) (some (AObj.cells (List.replicate 256 (Vi 0)++[Value.slice none 0 0,Value.slice none 0 0,Value.slice none 0 0]) 51)) Lf) (some (AObj.cells [Vi 97,Vi 97] 139)) (Nd Lf (some (AObj.cells [Value.slice (some ⟨15,0,none⟩) 1 18446744073709551616,Value.slice (some ⟨16,0,none⟩) 2 18446744073709551616,Value.slice (some ⟨17,0,none⟩) 1 18446744073709551616,Value.slice none 0 0,Value.slice (some ⟨18,0,none⟩) 1 18446744073709551616,Value.slice none 0 0,Value.slice none 0 0] 49)) Lf)) (some (AObj.cells [Vi 3,Value.slice (some ⟨3,0,none⟩) 1 18446744073709551616,Vi 0,Vi 0,Value.slice none 0 0] 57)) (Nd (Nd (Nd Lf (some (AObj.cells [Vi 5] 3)) Lf) (some (AObj.cells ([Value.int .u64 3]++List.replicate 63 (Value.int .u64 0)) 111)) Lf) (some (AObj.cells [Value.pointer (some ⟨8,0,none⟩)] 99)) (Nd Lf (some (AObj.cells [Vi 4,Vi 6] 3)) Lf))) (some (AObj.cells [Vi 6,Value.slice none 0 0,Vi 0,Vi (-1:Int),Value.slice (some ⟨1,0,none⟩) 1 1,Vi 3,Value.slice (some ⟨2,0,none⟩) 1 18446744073709551616,Vi 0,Vi 0,Value.slice none 0 0] 57)) (Nd (Nd (Nd (Nd Lf (some (AObj.cells [Vi 2,Vi 3] 3)) Lf) (some (AObj.cells [Value.slice (some ⟨11,0,none⟩) 7 18446744073709551616,Value.slice (some ⟨12,0,none⟩) 7 18446744073709551616,Value.slice (some ⟨13,0,none⟩) 2 18446744073709551616,Value.slice (some ⟨14,0,none⟩) 2 18446744073709551616] 102)) Lf) (some (AObj.cells [Vi 0,Value.slice none 0 0,Value.slice none 0 0] 25)) (Nd Lf (some (AObj.cells [Vi (-1:Int),Vi (-1:Int),Vi (-1:Int),Vi 0,Vi (-1:Int),Vi 1,Vi (-1:Int)] 3)) Lf)) (some (AObj.cells [Vi 98,Vi 98] 139)) (Nd (Nd (Nd Lf (some (AObj.cells [Vi 1] 3)) Lf) (some (AObj.cells [Value.bool false,Value.bool true] 4)) Lf) (some (AObj.cells [Value.slice (some ⟨9,0,none⟩) 2 18446744073709551616,Value.slice (some ⟨10,0,none⟩) 2 18446744073709551616,Value.slice none 0 0] 108)) (Nd Lf (some (AObj.cells (List.replicate 97 (Value.bool false)++[Value.bool true]++List.replicate 256 (Value.bool false)++[Value.bool true]++List.replicate 157 (Value.bool false)) 115)) Lf)))) 19)
theorem jL1_nf(K:KF):jL1 K=(K frL1 hLs1):=by kernel_rfl
noncomputable def cLe:Code:=au f30
def jL2(K:KF):Prop:=cloV env env1 100000 (cj 9 cLe) 1 (Func.ntmps f30) hL0 [2,5,6,7,8,13] frL1 hLs1 K
end
end Go.T9
