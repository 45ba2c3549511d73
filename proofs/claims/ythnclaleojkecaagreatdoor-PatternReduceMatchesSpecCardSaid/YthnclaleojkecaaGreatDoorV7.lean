/- A part of the proof. -/
import Derived.Test.YthnclaleojkecaaGreatDoorV6
import Derived.Test.YthnclaleojkecaaGreatDoorQ2
set_option linter.unusedVariables false
set_option linter.unusedSimpArgs false
set_option maxRecDepth 1000000
namespace Go.T9
open Go Go.AM Go.MK Go.Proofs.Tryz
noncomputable section
theorem jSt_eq(Q:Value->Prop)(a:KV):jSt (y9 Q a)=(([Value.string (av [97,42,98])]=[Value.string (av [97,42,98])]/\([]:List AObj)=[])/\([exB]=[exB]/\exO=exO)/\Q (.bool true)):=by kernel_rfl
theorem Cc:Walk env f10 [] (.bool true):=
 jB XSt_ok (d:=1) (HFb _) ((jSt_eq _ _).mpr ⟨⟨Eq.refl _,Eq.refl _⟩,⟨Eq.refl _,Eq.refl _⟩,Eq.refl _⟩)
def stX:Lh->Lj
 | []=>some (.bool true)
 |_=>none
theorem st_tab:∀ args A p v A',bN (λ_=>none) stX args A=some (p,v,A')->PH p->CallAt env 10 args A v A':=de ak ap (fn:=f10) rfl λargs v h a=>by unfold stX at h;split at h;cases h;exact⟨HF.nil,Cc⟩;cases h
theorem Cd:∀ args A p v A',bN (λ_=>none) stZ args A=some (p,v,A')->PH p->CallAt env 10 args A v A':=st_tab
theorem reduce_law(a:AU)(d:WfA a)(w:World)(b:Glob env (sig0 w)){c:Value}(f:VR (sig0 w) (auV a) c):
 Calls Proofs.Tryz.prog 3 #[c] w λe w'=>e=.returned (.bool true)/\RowKit.Below w.heap.size w w':=pn Cd a d w b f
end
end Go.T9
