/- A part of the proof. -/
import Derived.Test.YtegefclhhjbfhaaGreatDoorU1
set_option linter.unusedVariables false
set_option linter.unusedSimpArgs false
set_option maxRecDepth 1000000
namespace Go.T9
open Go Go.AM Go.MK Go.Proofs.Tryz
noncomputable section
def frL2:T Value:=(No (No (No (Sg (Vi 6)) Lf) (Ns Lf (Value.pointer (some ⟨5,0,none⟩)) (Sg (Value.pointer (some ⟨7,0,none⟩))))) (Ns (No (Sg (Value.pointer (some ⟨6,0,none⟩))) Lf) (Value.pointer (some ⟨4,0,none⟩)) (Sg (Vi 0))))
def hLs2:AH:=(K_ (Ns (Ns (Q_ (m_ (List.replicate 97 O'++[KG]++List.replicate 256 O'++[KG]++List.replicate 157 O') 115) (List.replicate 97 (Vi 0)++[Vi 1,Vi 2]++List.replicate 157 (Vi 0)++[t_ 11 0 3 18446744073709551616,p_,p_]) 51) (m_ [Vi 97,Vi 97] 139) (Q_ (m_ [Vi 1] 3) [Vi 0,Vi 97,Vi 98] 3)) (m_ [Vi 3,t_ 3 0 1 18446744073709551616,Vi 0,Vi 0,p_] 57) (Ns (Q_ (m_ [Vi 2,Vi 3] 3) ([Value.int .u64 3]++List.replicate 63 (Value.int .u64 0)) 111) (m_ [c_ 8 0] 99) (KJ [Vi (-1:Int),Vi (-1:Int),Vi (-1:Int),Vi 0,Vi (-1:Int),Vi 1,Vi (-1:Int)] 3))) (m_ [Vi 6,p_,Vi 0,Vi (-1:Int),Value.slice (some ⟨1,0,none⟩) 1 1,Vi 3,t_ 2 0 1 18446744073709551616,Vi 0,Vi 0,p_] 57) (Ns (Ns (Q_ (m_ [Vi 1] 3) [t_ 12 0 7 18446744073709551616,t_ 13 0 7 18446744073709551616,t_ 14 0 2 18446744073709551616,t_ 15 0 2 18446744073709551616] 102) X_ (KJ [t_ 16 0 1 18446744073709551616,t_ 17 0 2 18446744073709551616,t_ 18 0 1 18446744073709551616,p_,t_ 19 0 1 18446744073709551616,p_,p_] 49)) (m_ [Vi 98,Vi 98] 139) (Ns (Q_ (m_ [Vi 5] 3) [O',KG] 4) (m_ [t_ 9 0 2 18446744073709551616,t_ 10 0 2 18446744073709551616,p_] 108) (KJ [Vi 4,Vi 6] 3))) 20)
theorem jL2_nf(K:KF):jL2 K=(K frL2 hLs2):=by kernel_rfl
def jL3(K:KF):Prop:=cloV env env1 100000 (cj 10 cLe) 3 (Func.ntmps f30) hL0 [2,13] frL2 hLs2 K
end
end Go.T9
