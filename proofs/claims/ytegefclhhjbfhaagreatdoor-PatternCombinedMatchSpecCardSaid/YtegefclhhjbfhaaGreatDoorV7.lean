/- A part of the proof. -/
import Derived.Test.YtegefclhhjbfhaaGreatDoorV6
import Derived.Test.YtegefclhhjbfhaaGreatDoorW1
set_option linter.unusedVariables false
set_option linter.unusedSimpArgs false
set_option maxRecDepth 1000000
namespace Go.T9
open Go Go.AM Go.MK Go.Proofs.Tryz
noncomputable section
theorem jSt_eq(Q:Value->Prop)(a:KV):jSt (vV Q a)=(([Value.string (av [97,42,98])]=[Value.string (av [97,42,98])]/\([]:List AObj)=[])/\([exB]=[exB]/\exO=exO)/\Q (.bool true)):=by kernel_rfl
theorem CE:Walk env f14 [] (.bool true):=
 eP XSt_ok (d:=1) (HFb _) ((jSt_eq _ _).mpr ⟨⟨Eq.refl _,Eq.refl _⟩,⟨Eq.refl _,Eq.refl _⟩,Eq.refl _⟩)
def stX:Lh->Lj
 | []=>some (.bool true)
 |_=>none
theorem st_tab:∀ args A p v A',bg (λ_=>none) stX args A=some (p,v,A')->PH p->CallAt env 14 args A v A':=dh ai am (fn:=f14) rfl λargs v h a=>by grind [stX,osI,CE]
theorem combined_law(a b:AU)(h:WfA a)(g:WfA b)(w:World)(c:Glob env (sig0 w)){f d:Value}(j:VR (sig0 w) (auV a) f)(i:VR (sig0 w) (auV b) d):
 Calls Proofs.Tryz.prog 3 #[f,d] w λe w'=>e=.returned (.bool true)/\RowKit.Below w.heap.size w w':=
 ui (qo ai am (fn:=f3) rfl (HF.cons (fH _) (HF.cons (fH _) HF.nil)) (DJ st_tab h g)) (mi _ _) rfl w c (.cons j (.cons i .nil))
end
end Go.T9
