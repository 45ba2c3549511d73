/- A part of the proof. -/
import Derived.Test.YtegefclhhjbfhaaGreatDoorV4
import Derived.Test.YtegefclhhjbfhaaGreatDoorU2
set_option linter.unusedVariables false
set_option linter.unusedSimpArgs false
set_option maxRecDepth 1000000
namespace Go.T9
open Go Go.AM Go.MK Go.Proofs.Tryz
noncomputable section
def frL3:T Value:=(No (No Lf (No Lf (Sg (Value.pointer (some ⟨5,0,none⟩))))) (Sg (Value.pointer (some ⟨4,0,none⟩))))
def hL3:AH:=(K_ (Ns (Ns (KJ [O',O',O',KG] 4) (m_ [Vi 97,Vi 97] 139) (KJ [Vi 1,Vi 2,Vi 3] 3)) (m_ [Vi 3,t_ 3 0 1 18446744073709551616,Vi 0,Vi 0,p_] 57) (Q_ (m_ [Vi 1,Vi 2,Vi 3] 3) (List.replicate 97 (Vi 0)++[Vi 1,Vi 2]++List.replicate 157 (Vi 0)++[t_ 6 0 3 18446744073709551616,t_ 7 0 4 18446744073709551616,t_ 8 0 4 18446744073709551616]) 51)) (m_ [Vi 6,p_,Vi 0,Vi (-1:Int),Value.slice (some ⟨1,0,none⟩) 1 1,Vi 3,t_ 2 0 1 18446744073709551616,Vi 0,Vi 0,p_] 57) (Ns (Ns (KJ [J_ 9 0 3,J_ 10 0 3,J_ 11 0 3,J_ 12 0 3] 49) X_ (KJ [Vi 1,Vi 1,Vi 1] 3)) (m_ [Vi 98,Vi 98] 139) (Q_ (m_ [Vi 1,Vi 1,Vi 1] 3) [Vi 0,Vi 97,Vi 98] 3)) 13)
variable {QQ:Post}
theorem jL3_nf(K:KF):jL3 K=(K frL3 hL3):=by kernel_rfl
def roA:AObj:=.cells (List.replicate 97 (Vi 1)++[Vi 0,Vi 2]++List.replicate 157 (Vi 1)) 3
def roB:AObj:=.cells (List.replicate 256 (Vi 1)) 3
def leN:List AObj:=sLeO++[.cells [Vb false,Vb false,Vb true] 4,.cells [.slice (some ⟨10,0,none⟩) 256 256,.slice (some ⟨11,0,none⟩) 256 256,.slice (some ⟨12,0,none⟩) 256 256] 49,roA,roB,roB]
def sLeV:Value:=.tuple ⟨[.agg ⟨[Vi 0,.slice (some ⟨8,0,none⟩) 3 unk,.slice (some ⟨9,0,none⟩) 3 unk]⟩,Vi 0]⟩
theorem jM7_eq(Q:Value->AH->Prop):jM7 Q=Q sLeV (aQ leN):=by kernel_rfl
attribute [local irreducible] cloV cloR cloE cloC cloK cloF cloX evN W aQ sx
theorem w_last:W env hLe0 (Func.ntmps f26) (cj 7 bSle) (Fin env f26 (EndF env hLe0 sLeV (aQ leN))) frM6 hM6:=
 xE (ns:=[]) (zs:=[]) (ws:=[]) XLe_ok (show cloK XSle 1 (cj 7 bSle) f26 hLe0 frM6 hM6 (endF env hLe0 [] [] [] (λv1 a=>v1=sLeV/\a=aQ leN))from(jM7_eq (λv1 a=>v1=sLeV/\a=aQ leN)).mpr ⟨Eq.refl _,Eq.refl _⟩)
theorem c_exit(w:W env hLe0 (Func.ntmps f26) (cj 7 bSle) QQ frM6 hM6):CR env env1 hLe0 (Func.ntmps f26) lLe (Blk 0 (Then (W env hLe0 (Func.ntmps f26) (cj 7 bSle) QQ) QQ)) frM5 hM5:=
 CR.exit (k:=100000) (slots:=[0,2,7]) ai am twin okLe (show cloE env env1 100000 lLe (Func.ntmps f26) 0 hLe0 [0,2,7] frM5 hM5 (λa b=>a=frM6/\b=hM6)from(jM6_nf _).mpr ⟨Eq.refl _,Eq.refl _⟩) w
theorem Aj(c:CR env env1 hLe0 (Func.ntmps f26) lLe QQ frM5 hM5):CR env env1 hLe0 (Func.ntmps f26) lLe QQ frM2 hM2:=by have d:CR env env1 hLe0 (Func.ntmps f26) lLe QQ frM4 hM4:=CR.clo (k:=100000) (m:=1) (slots:=[0,2,4,5,6,7,8]) ai am (show cloR env env1 100000 lLe (Func.ntmps f26) hLe0 1 [0,2,4,5,6,7,8] frM4 hM4 (λa b=>a=frM5/\b=hM5)from(jM5_nf _).mpr ⟨ab [0,1,2],Eq.refl _,Eq.refl _⟩) c;have e:CR env env1 hLe0 (Func.ntmps f26) lLe QQ frM3 hM3:=CR.clo (k:=100000) (m:=1) (slots:=[0,2,4,5,6,7,8]) ai am (show cloR env env1 100000 lLe (Func.ntmps f26) hLe0 1 [0,2,4,5,6,7,8] frM3 hM3 (λa b=>a=frM4/\b=hM4)from(jM4_nf _).mpr ⟨ab [0,1,2],Eq.refl _,Eq.refl _⟩) d;exact CR.clo (k:=100000) (m:=1) (slots:=[0,2,4,5,6,7,8]) ai am (show cloR env env1 100000 lLe (Func.ntmps f26) hLe0 1 [0,2,4,5,6,7,8] frM2 hM2 (λa b=>a=frM3/\b=hM3)from(jM3_nf _).mpr ⟨ab [0,1,2],Eq.refl _,Eq.refl _⟩) e
theorem w_all(w:W env hLe0 (Func.ntmps f26) (cj 7 bSle) QQ frM6 hM6):W env hLe0 (Func.ntmps f26) bSle QQ wY hLe0:=by have c:W env hLe0 (Func.ntmps f26) (cj 6 bSle) QQ frM1 hM1:=W.loopPiece (k:=100000) (slots:=[0,2,4,5,6,7,8]) ai am twin eqLe okLr okLe (show cloC env env1 100000 rLe (Func.ntmps f26) hLe0 [0,2,4,5,6,7,8] frM1 hM1 (λa b=>a=frM2/\b=hM2)from(jM2_nf _).mpr ⟨ab [0],Eq.refl _,Eq.refl _⟩) (Aj (c_exit w));exact na (k:=100000) (m:=6) (slots:=[0,2,4,5,6,7]) ai am twin (show cloV env env1 100000 bSle 6 (Func.ntmps f26) hLe0 [0,2,4,5,6,7] wY hLe0 (λa b=>a=frM1/\b=hM1)from(jM1_nf _).mpr ⟨ab [0],Eq.refl _,Eq.refl _⟩) c
theorem zV:b8 [.pointer (some ⟨0,0,none⟩)] 0 .leaf=some wY:=by kernel_rfl
theorem bLe_ok:(f26).body=some bSle:=by kernel_rfl
theorem zD:CallAt env 26 [.pointer (some ⟨0,0,none⟩)] hLe0 sLeV (aQ leN):=
 WalkF.call ai (fn:=f26) rfl ⟨bSle,wY,bLe_ok,rfl,zV,w_all w_last⟩
theorem DK:CallAt env 26 [.pointer (some ⟨0,0,none⟩)] (aQ sLeO) sLeV (aQ leN):=zD
def XL4:SX:=⟨env,[(26,frmR (λ_=>none) (litR [.pointer (some ⟨0,0,none⟩)] sLeO sLeV leN))],noEl,λ_=>.unroll 0⟩
theorem XL4_ok:XL4.Ok:=⟨ai,aD,am,.cons (pF DK) .nil⟩
def jL4(Q:Value->AH->Prop):Prop:=cloK XL4 1 (cj 13 cLe) f30 hL0 frL3 hL3 (endF env hL0 [] [] [] Q)
end
end Go.T9
