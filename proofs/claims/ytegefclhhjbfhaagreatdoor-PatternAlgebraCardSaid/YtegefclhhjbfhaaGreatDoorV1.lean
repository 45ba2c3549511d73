/- A part of the proof. -/
import Derived.Test.YtegefclhhjbfhaaGreatDoorV0
set_option linter.unusedVariables false
set_option linter.unusedSimpArgs false
set_option maxRecDepth 1000000
namespace Go.T9
open Go Go.AM Go.MK Go.Proofs.Tryz
noncomputable section
def frM2:T Value:=(Nd (Nd (Nd (Nd Lf (some (Value.pointer (some ⟨12,0,none⟩))) Lf) none Lf) none (Nd Lf (some (Value.map (some 10))) Lf)) (some (Value.pointer (some ⟨0,0,none⟩))) (Nd (Nd (Nd Lf (some (Vi 0)) Lf) (some (Value.pointer (some ⟨9,0,none⟩))) Lf) (some (Value.pointer (some ⟨8,0,none⟩))) (Nd Lf (some (Value.slice (some ⟨11,0,none⟩) 1 1)) Lf)))
def hM2:AH:=(AH.mk (Nd (Nd (Nd (Nd (Nd Lf (some (AObj.cells [Vi 1,Vi 0,Vi 0,Vi 0] 3)) Lf) (some (AObj.cells [Vi 1,Vi 1,Vi 1] 3)) Lf) (some (AObj.cells [Value.slice (some ⟨4,0,none⟩) 3 3,Value.slice (some ⟨5,0,none⟩) 3 3,Value.slice (some ⟨6,0,none⟩) 3 3,Value.slice (some ⟨7,0,none⟩) 3 3] 49)) (Nd Lf (some (AObj.cells [Vi 2] 3)) Lf)) (some (AObj.cells [Vi 0,Vi 97,Vi 98] 3)) (Nd (Nd (Nd Lf (some (AObj.cells [Vi 0,Vi 2] 3)) Lf) (some (AObj.cells [Value.slice (some ⟨13,0,none⟩) 4 4,Value.slice (some ⟨14,0,none⟩) 3 18446744073709551616] 85)) Lf) (some (AObj.cells [Vi 1,Vi 1,Vi 1] 3)) (Nd Lf (some (AObj.cells [Vi 2,Vi 0,Vi 2,Vi 1] 3)) Lf))) (some (AObj.cells (List.replicate 97 (Vi 0)++[Vi 1,Vi 2]++List.replicate 157 (Vi 0)++[Value.slice (some ⟨1,0,none⟩) 3 18446744073709551616,Value.slice (some ⟨2,0,none⟩) 4 18446744073709551616,Value.slice (some ⟨3,0,none⟩) 4 18446744073709551616]) 51)) (Nd (Nd (Nd (Nd Lf (some (AObj.cells [Vi 3] 3)) Lf) (some (AObj.cells [Vi 0,Value.slice none 0 0,Value.slice none 0 0] 25)) Lf) (some (AObj.cells [Vi 1,Vi 2,Vi 3] 3)) (Nd Lf (some (AObj.cells [Vi 0,Value.slice none 0 0,Value.slice none 0 0] 25)) Lf)) (some (AObj.cells [Value.bool false,Value.bool false,Value.bool false,Value.bool true] 4)) (Nd (Nd Lf (some (AObj.map [(Vi 2,Vi 0,0)] 1)) Lf) (some (AObj.cells [Vi 1,Vi 2,Vi 3] 3)) (Nd Lf (some (AObj.cells [Value.slice (some ⟨15,0,none⟩) 1 4,Value.slice (some ⟨16,0,none⟩) 1 18446744073709551616,Value.slice (some ⟨17,0,none⟩) 2 18446744073709551616] 49)) Lf)))) 18)
theorem jM2_nf(K:KF):jM2 K=(HF (Value.agg (Array.mk [Vi 0]))/\K frM2 hM2):=by kernel_rfl
def jM3(K:KF):Prop:=cloR env env1 100000 lLe (Func.ntmps f26) hLe0 1 [0,2,4,5,6,7,8] frM2 hM2 K
end
end Go.T9
