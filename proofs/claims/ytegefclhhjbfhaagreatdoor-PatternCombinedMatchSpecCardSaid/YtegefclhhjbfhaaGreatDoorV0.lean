/- A part of the proof. -/
import Derived.Test.YtegefclhhjbfhaaGreatDoorU0
import Derived.Test.YtegefclhhjbfhaaGreatDoorN3
set_option linter.unusedVariables false
set_option linter.unusedSimpArgs false
set_option maxRecDepth 1000000
namespace Go.T9
open Go Go.AM Go.MK Go.Proofs.Tryz
noncomputable section
def sLeO:List AObj:=[.cells (List.replicate 97 (Vi 0)++[Vi 1,Vi 2]++List.replicate 157 (Vi 0)++[.slice (some ⟨1,0,none⟩) 3 unk,.slice (some ⟨2,0,none⟩) 4 unk,.slice (some ⟨3,0,none⟩) 4 unk]) 51,.cells [Vi 0,Vi 97,Vi 98] 3,.cells [Vb false,Vb false,Vb false,Vb true] 4,
 .cells [.slice (some ⟨4,0,none⟩) 3 3,.slice (some ⟨5,0,none⟩) 3 3,.slice (some ⟨6,0,none⟩) 3 3,.slice (some ⟨7,0,none⟩) 3 3] 49,.cells [Vi 1,Vi 2,Vi 3] 3,.cells [Vi 1,Vi 1,Vi 1] 3,.cells [Vi 1,Vi 2,Vi 3] 3,.cells [Vi 1,Vi 1,Vi 1] 3]
def hLe0:AH:=aQ sLeO
def wY:T Value:=(Nd Lf (some (.pointer (some ⟨0,0,none⟩))) Lf)
noncomputable def bSle:Code:=ay f26
def jM1(K:KF):Prop:=cloV env env1 100000 bSle 6 (Func.ntmps f26) hLe0 [0,2,4,5,6,7] wY hLe0 K
def frM1:T Value:=(Ns (No (No (Sg (Value.pointer (some ⟨12,0,none⟩))) Lf) (Sg (Value.map (some 10)))) (Value.pointer (some ⟨0,0,none⟩)) (Ns (Sg (Value.pointer (some ⟨9,0,none⟩))) (Value.pointer (some ⟨8,0,none⟩)) (Sg (Value.slice (some ⟨11,0,none⟩) 1 1))))
abbrev Kp:=K_ (Ns (Ns (Q_ (m_ [Vi 1,Vi 0,Vi 0,Vi 0] 3) [Vi 1,Vi 1,Vi 1] 3) (m_ [J_ 4 0 3,J_ 5 0 3,J_ 6 0 3,J_ 7 0 3] 49) (Sg (m_ [Vi 2] 3))) (m_ [Vi 0,Vi 97,Vi 98] 3) (Ns (Q_ (m_ [Vi 0,Vi 2] 3) [J_ 13 0 4,t_ 14 0 3 18446744073709551616] 85) (m_ [Vi 1,Vi 1,Vi 1] 3) (Sg (m_ [Vi 2,Vi 0,Vi 2,Vi 1] 3)))) (m_ (List.replicate 97 (Vi 0)++[Vi 1,Vi 2]++List.replicate 157 (Vi 0)++[t_ 1 0 3 18446744073709551616,t_ 2 0 4 18446744073709551616,t_ 3 0 4 18446744073709551616]) 51) (Ns (Ns (Q_ (m_ [Vi 3] 3) [Vi 0,p_,p_] 25) (m_ [Vi 1,Vi 2,Vi 3] 3) (Sg X_)) (m_ [Value.bool false,Value.bool false,Value.bool false,Value.bool true] 4) (Ns (Sg (AObj.map [(Vi 2,Vi 0,0)] 1)) (m_ [Vi 1,Vi 2,Vi 3] 3) (Sg (m_ [t_ 15 0 1 4,t_ 16 0 1 18446744073709551616,t_ 17 0 2 18446744073709551616] 49)))) 18
def hM1:AH:=Kp
theorem jM1_nf(K:KF):jM1 K=(HF (Value.agg (Array.mk [Vi 0]))/\K frM1 hM1):=by kernel_rfl
def leftC:Code->Code
 | .seq a _=>a
 |c=>c
noncomputable def lLe:Code:=an (subC [1,1,1,1,1,1,0,1,0] (ay f26))
noncomputable def rLe:Code:=leftC (leftC (cj 6 bSle))
theorem eqLe:cj 6 bSle=.seq (.seq rLe (.block 0 (.loop lLe))) (cj 7 bSle):=by kernel_rfl
theorem okLe:bM env1 lLe=true:=by kernel_rfl
theorem okLr:bM env1 rLe=true:=by kernel_rfl
def jM2(K:KF):Prop:=cloC env env1 100000 rLe (Func.ntmps f26) hLe0 [0,2,4,5,6,7,8] frM1 hM1 K
end
end Go.T9
