/- A part of the proof. -/
import Derived.Test.YtegefclhhjbfhaaGreatDoorV1
set_option linter.unusedVariables false
set_option linter.unusedSimpArgs false
set_option maxRecDepth 1000000
namespace Go.T9
open Go Go.AM Go.MK Go.Proofs.Tryz
noncomputable section
def frM3:T Value:=(Ns (No (H_ (c_ 12 0)) (Sg (D_ 10))) i_ (Ns (Kw (Kx 1) (c_ 9 0)) (c_ 8 0) (Sg (t_ 11 0 3 18446744073709551616))))
abbrev V':=m_ (List.replicate 97 (Vi 0)++[Vi 1,Vi 2]++List.replicate 157 (Vi 0)++[t_ 1 0 3 18446744073709551616,t_ 2 0 4 18446744073709551616,t_ 3 0 4 18446744073709551616]) 51
def hM3:AH:=(K_ (Ns (Ns (Q_ (m_ [O'] 4) [Vi 1,Vi 1,Vi 1] 3) (m_ [J_ 4 0 3,J_ 5 0 3,J_ 6 0 3,J_ 7 0 3] 49) (Q_ (m_ [Vi 0,Vi 2] 3) [Vi 2,Vi 0,Vi 1] 3)) (m_ [Vi 0,Vi 97,Vi 98] 3) (Ns (Q_ (m_ [Vi 1,Vi 0,Vi 0,Vi 0] 3) [J_ 13 0 4,t_ 14 0 3 18446744073709551616] 85) (m_ [Vi 1,Vi 1,Vi 1] 3) (KJ [Vi 2,Vi 0,Vi 2,Vi 1] 3))) V' (Ns (Ns (Q_ (m_ [J_ 20 0 256] 49) [Vi 0,p_,p_] 25) (m_ [Vi 1,Vi 2,Vi 3] 3) (Q_ (m_ (List.replicate 97 (Vi 1)++[Vi 0,Vi 2]++List.replicate 157 (Vi 1)) 3) [Vi 0,t_ 15 0 1 18446744073709551616,t_ 16 0 1 18446744073709551616] 25)) (m_ [O',O',O',KG] 4) (Ns (Kw (KJ [Vi 3] 3) (Kr [(Vi 2,Vi 0,0),(Vi 0,Vi 1,1),(Vi 1,Vi 2,2)] 3)) (m_ [Vi 1,Vi 2,Vi 3] 3) (KJ [t_ 17 0 1 4,t_ 18 0 1 18446744073709551616,t_ 19 0 2 18446744073709551616] 49))) 21)
theorem jM3_nf(K:KF):jM3 K=(HF (Value.agg (Array.mk [Vi 0,Vi 1,Vi 2]))/\K frM3 hM3):=by kernel_rfl
def jM4(K:KF):Prop:=cloR env env1 100000 lLe (Func.ntmps f26) hLe0 1 [0,2,4,5,6,7,8] frM3 hM3 K
end
end Go.T9
