/- A part of the proof. -/
import Derived.Test.YtegefclhhjbfhaaGreatDoorV5
set_option linter.unusedVariables false
set_option linter.unusedSimpArgs false
set_option maxRecDepth 1000000
namespace Go.T9
open Go Go.AM Go.MK Go.Proofs.Tryz
noncomputable section
def sAlO:List AObj:=exO++[.cells [Vb false,Vb false,Vb true] 4,.cells [.slice (some ⟨6,0,none⟩) 256 256,.slice (some ⟨7,0,none⟩) 256 256,.slice (some ⟨8,0,none⟩) 256 256] 49,roA,roB,roB]
def alV:Value:=.tuple ⟨[.agg ⟨[Vi 0,.slice (some ⟨4,0,none⟩) 3 unk,.slice (some ⟨5,0,none⟩) 3 unk]⟩,Vi 0]⟩
theorem jL4_eq(Q:Value->AH->Prop):jL4 Q=(([Value.pointer (some ⟨0,0,none⟩)]=[Value.pointer (some ⟨0,0,none⟩)]/\sLeO=sLeO)/\Q alV (aQ sAlO)):=by kernel_rfl
theorem re1:cj 1 (cj 9 cLe)=cj 10 cLe:=by kernel_rfl
theorem re3:cj 3 (cj 10 cLe)=cj 13 cLe:=by kernel_rfl
theorem FM:b8 [exB] 0 .leaf=some frL0:=by kernel_rfl
theorem cLe_ok:(f30).body=some cLe:=by kernel_rfl
attribute [local irreducible] cloV cloR cloE cloC cloK cloF cloX evN W aQ sx
theorem l_last:W env hL0 (Func.ntmps f30) (cj 13 cLe) (Fin env f30 (EndF env hL0 alV (aQ sAlO))) frL3 hL3:=
 xE (ns:=[]) (zs:=[]) (ws:=[]) XL4_ok (show cloK XL4 1 (cj 13 cLe) f30 hL0 frL3 hL3 (endF env hL0 [] [] [] (λv1 a=>v1=alV/\a=aQ sAlO))from(jL4_eq (λv1 a=>v1=alV/\a=aQ sAlO)).mpr ⟨⟨Eq.refl _,Eq.refl _⟩,Eq.refl _,Eq.refl _⟩)
theorem l_all{c:Post}(w:W env hL0 (Func.ntmps f30) (cj 13 cLe) c frL3 hL3):W env hL0 (Func.ntmps f30) cLe c frL0 hL0:=by have d:W env hL0 (Func.ntmps f30) (cj 10 cLe) c frL2 hLs2:=na (k:=100000) (m:=3) (slots:=[2,13]) ai am twin (show cloV env env1 100000 (cj 10 cLe) 3 (Func.ntmps f30) hL0 [2,13] frL2 hLs2 (λa b=>a=frL3/\b=hL3)from(jL3_nf _).mpr ⟨Eq.refl _,Eq.refl _⟩) (re3▸w);have e:W env hL0 (Func.ntmps f30) (cj 9 cLe) c frL1 hLs1:=na (k:=100000) (m:=1) (slots:=[2,5,6,7,8,13]) ai am twin (show cloV env env1 100000 (cj 9 cLe) 1 (Func.ntmps f30) hL0 [2,5,6,7,8,13] frL1 hLs1 (λa b=>a=frL2/\b=hLs2)from(jL2_nf _).mpr ⟨Eq.refl _,Eq.refl _⟩) (re1▸d);exact na (k:=100000) (m:=9) (slots:=[2,5,6,7,8,13]) ai am twin (show cloV env env1 100000 cLe 9 (Func.ntmps f30) hL0 [2,5,6,7,8,13] frL0 hL0 (λa b=>a=frL1/\b=hLs1)from(jL1_nf _).mpr ⟨Eq.refl _,Eq.refl _⟩) e
theorem pK:CallAt env 30 [exB] hL0 alV (aQ sAlO):=
 WalkF.call ai (fn:=f30) rfl ⟨cLe,frL0,cLe_ok,rfl,FM,l_all l_last⟩
theorem tL:CallAt env 30 [exB] (aQ exO) alV (aQ sAlO):=pK
def rdB:Value:=.tuple ⟨[exB,Vi 0,Vi 0]⟩
theorem jRd_eq(Q:Value->AH->Prop):jSrd Q=Q rdB (aQ exO):=by kernel_rfl
theorem vd:CallAt env 29 [.string (av [97,42,98])] ⟨.leaf,0⟩ rdB (aQ exO):=
 GG (ns:=[]) (zs:=[]) (ws:=[]) ai am twin (show cloF env env1 100000 29 [.string (av [97,42,98])] ⟨.leaf,0⟩ (endF env ⟨.leaf,0⟩ [] [] [] (λv1 a=>v1=rdB/\a=aQ exO))from(jRd_eq _).mpr ⟨Eq.refl _,Eq.refl _⟩)
def aB:AU:=(0,[false,false,true],[List.replicate 97 1++[0,2]++List.replicate 157 1,List.replicate 256 1,List.replicate 256 1])
theorem wf_aB:WfA aB:=by
 have h:(aB.2.2.all λr=>decide (r.length<9223372036854775808))=true:=by kernel_rfl
 refine⟨by decide,by decide,λr a=>?_⟩;exact odt (HV.1 h r a)
theorem acc_aB:accI aB (av [97,97,98])=(true,0):=by kernel_rfl
theorem Hf:Con env 31 (dC (one [auV aB,.string (av [97,97,98])] (acV (true,0)))):=by have h:=Hg wf_aB (av [97,97,98]) (by decide);rw[acc_aB]at h;exact qo ai am (fn:=f31) rfl (HF.cons (fH _) (HF.cons (.scal rfl) HF.nil)) h
theorem zM:aQ []=⟨.leaf,0⟩:=by kernel_rfl
theorem FZ:Av (acV (true,0)):=pm (l:=[.bool true,.int .i64 0]) (by kernel_rfl)
theorem tg:CallAt env 29 [.string (av [97,42,98])] (aQ []) rdB (aQ exO):=zM▸vd
def XSt:SX:=⟨env,[(29,frmR (λ_=>none) (litR [.string (av [97,42,98])] [] rdB exO)),(30,frmR (λ_=>none) (litR [exB] exO alV sAlO)),(31,fzR [auV aB,.string (av [97,97,98])] (acV (true,0)))],noEl,λ_=>.unroll 0⟩
theorem XSt_ok:XSt.Ok:=⟨ai,aD,am,.cons (pF tg) (.cons (pF tL) (.cons (fzR_ok Hf (mi _ _) FZ) .nil))⟩
def jSt(K:KV):Prop:=aN XSt 1 f14 [] ⟨.leaf,0⟩ K
end
end Go.T9
