/- A part of the proof. -/
import Derived.Test.YthnclaleojkecaaGreatDoorV6
import Derived.Test.YthnclaleojkecaaGreatDoorQ2
set_option linter.unusedVariables false
set_option linter.unusedSimpArgs false
set_option maxRecDepth 1000000
namespace Go.T9
open Go Go.AM Go.MK Go.Proofs.Tryz
noncomputable section
theorem jSt_eq(Q:Value->Prop)(a:KV):jSt (zk Q a)=(([Value.string (aw [97,42,98])]=[Value.string (aw [97,42,98])]/\([]:List AObj)=[])/\([exB]=[exB]/\exO=exO)/\Q (.bool true)):=by kernel_rfl
theorem Cm:Walk env f10 [] (.bool true):=
 gt XSt_ok (d:=1) (HFb _) ((jSt_eq _ _).mpr ⟨⟨Eq.refl _,Eq.refl _⟩,⟨Eq.refl _,Eq.refl _⟩,Eq.refl _⟩)
def stX:Lh->Lj
 | []=>some (.bool true)
 |_=>none
theorem st_tab:∀ args A p v A',bD (λ_=>none) stX args A=some (p,v,A')->PH p->CallAt env 10 args A v A':=de am ap (fn:=f10) rfl λargs v h a=>by unfold stX at h;split at h;cases h;exact⟨HF.nil,Cm⟩;cases h
end
end Go.T9
namespace Go.T9
open Go Go.AM Go.MK
noncomputable section
theorem Cn:∀ args A p v A',bD (λ_=>none) stZ args A=some (p,v,A')->PH p->CallAt env 10 args A v A':=st_tab
end
end Go.T9
namespace Go.T9
open Go Go.AM Go.MK Go.Proofs.Tryz
noncomputable section
theorem after_law(a:AU)(t:ByteArray)(f:WfA a)(d:t.size<9223372036854775808)(w:World)(b:Glob env (sig0 w)){c:Value}(g:VR (sig0 w) (auV a) c):
 Calls Proofs.Tryz.prog 4 #[c,.string t] w λe w'=>e=.returned (.bool true)/\RowKit.Below w.heap.size w w':=
 uc (qq am ap (fn:=f4) rfl (HF.cons (nD _) (HF.cons (.scal rfl) HF.nil)) (Ah Cn f t d)) (mi _ _) rfl w b (.cons g (.cons (dI rfl _) .nil))
end
end Go.T9
