/- A part of the proof. -/
import Derived.Test.YtegefclhhjbfhaaGreatDoorV6
import Derived.Test.YtegefclhhjbfhaaGreatDoorW1
import Derived.Test.YtegefclhhjbfhaaGreatDoorQ2
set_option linter.unusedVariables false
set_option linter.unusedSimpArgs false
set_option maxRecDepth 1000000
namespace Go.T9
open Go Go.AM Go.MK Go.Proofs.Tryz
noncomputable section
theorem jSt_eq(Q:Value->Prop)(a:KV):jSt (zj Q a)=(([Value.string (ao [97,42,98])]=[Value.string (ao [97,42,98])]/\([]:List AObj)=[])/\([exB]=[exB]/\exO=exO)/\Q (.bool true)):=by kernel_rfl
theorem Cq:Walk env f14 [] (.bool true):=
 dK XSt_ok (d:=1) (HFb _) ((jSt_eq _ _).mpr ⟨⟨Eq.refl _,Eq.refl _⟩,⟨Eq.refl _,Eq.refl _⟩,Eq.refl _⟩)
def stX:Lh->Lj
 | []=>some (.bool true)
 |_=>none
theorem st_tab:∀ args A p v A',bw (λ_=>none) stX args A=some (p,v,A')->PH p->CallAt env 14 args A v A':=de ak an (fn:=f14) rfl λargs v h a=>by unfold stX at h;split at h;cases h;exact⟨HF.nil,Cq⟩;cases h
theorem algebra_law(a b:AU)(h:WfA a)(g:WfA b)(w:World)(c:Glob env (sig0 w)){f d:Value}(j:VR (sig0 w) (auV a) f)(i:VR (sig0 w) (auV b) d):
 Calls Proofs.Tryz.prog 4 #[f,d] w λe w'=>e=.returned (.bool true)/\RowKit.Below w.heap.size w w':=
 tZ (qo ak an (fn:=f4) rfl (HF.cons (iP _) (HF.cons (iP _) HF.nil)) (Dl st_tab h g)) (mD _ _) rfl w c (.cons j (.cons i .nil))
end
end Go.T9
