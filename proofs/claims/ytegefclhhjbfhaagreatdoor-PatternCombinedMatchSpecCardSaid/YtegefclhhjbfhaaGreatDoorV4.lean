/- A part of the proof. -/
import Derived.Test.YtegefclhhjbfhaaGreatDoorV3
set_option linter.unusedVariables false
set_option linter.unusedSimpArgs false
set_option maxRecDepth 1000000
namespace Go.T9
open Go Go.AM Go.MK Go.Proofs.Tryz
noncomputable section
def frM5:T Value:=(Ns (No (H_ (c_ 12 0)) (Sg (D_ 10))) i_ (Ns (Kw (Kx 3) (c_ 9 0)) (c_ 8 0) (Sg (t_ 11 0 3 18446744073709551616))))
def hM5:AH:=(K_ (Ns (Ns (Q_ (m_ [O',O',KG] 4) [Vi 1,Vi 1,Vi 1] 3) (m_ [J_ 4 0 3,J_ 5 0 3,J_ 6 0 3,J_ 7 0 3] 49) (Q_ (m_ [Vi 0,Vi 2] 3) [Vi 2,Vi 0,Vi 1] 3)) (m_ [Vi 0,Vi 97,Vi 98] 3) (Ns (Q_ (m_ [Vi 1,Vi 0,Vi 0,Vi 0] 3) [J_ 13 0 4,t_ 14 0 3 18446744073709551616] 85) (m_ [Vi 1,Vi 1,Vi 1] 3) (Q_ (m_ (List.replicate 256 (Vi 1)) 3) [Vi 2,Vi 0,Vi 2,Vi 1] 3))) V' (Ns (Ns (Q_ (m_ [J_ 20 0 256,J_ 21 0 256,J_ 22 0 256] 49) [Vi 0,p_,p_] 25) (m_ [Vi 1,Vi 2,Vi 3] 3) (Q_ (m_ (List.replicate 97 (Vi 1)++[Vi 0,Vi 2]++List.replicate 157 (Vi 1)) 3) [Vi 0,t_ 15 0 3 18446744073709551616,t_ 16 0 3 18446744073709551616] 25)) (m_ [O',O',O',KG] 4) (Ns (Kw (KJ [Vi 3] 3) (Kr [(Vi 2,Vi 0,0),(Vi 0,Vi 1,1),(Vi 1,Vi 2,2)] 3)) (m_ [Vi 1,Vi 2,Vi 3] 3) (Q_ (m_ (List.replicate 256 (Vi 1)) 3) [t_ 17 0 1 4,t_ 18 0 1 18446744073709551616,t_ 19 0 2 18446744073709551616] 49))) 23)
theorem jM5_nf(K:KF):jM5 K=(HF (Value.agg (Array.mk [Vi 0,Vi 1,Vi 2]))/\K frM5 hM5):=by kernel_rfl
def jM6(K:KF):Prop:=cloE env env1 100000 lLe (Func.ntmps f26) 0 hLe0 [0,2,7] frM5 hM5 K
def frM6:T Value:=(Ns (No (No (Sg (Value.pointer (some ⟨9,0,none⟩))) Lf) Lf) (Value.pointer (some ⟨0,0,none⟩)) (Sg (Value.pointer (some ⟨8,0,none⟩))))
def hM6:AH:=(K_ (Ns (Ns (KJ [Vi 1,Vi 1,Vi 1] 3) (m_ [J_ 4 0 3,J_ 5 0 3,J_ 6 0 3,J_ 7 0 3] 49) (KJ [J_ 12 0 256,J_ 13 0 256,J_ 14 0 256] 49)) (m_ [Vi 0,Vi 97,Vi 98] 3) (Ns (KJ [Vi 0,t_ 10 0 3 18446744073709551616,t_ 11 0 3 18446744073709551616] 25) (m_ [Vi 1,Vi 1,Vi 1] 3) (KJ (List.replicate 256 (Vi 1)) 3))) V' (Ns (Ns (Sg X_) (m_ [Vi 1,Vi 2,Vi 3] 3) (KJ (List.replicate 97 (Vi 1)++[Vi 0,Vi 2]++List.replicate 157 (Vi 1)) 3)) (m_ [O',O',O',KG] 4) (Ns (KJ [O',O',KG] 4) (m_ [Vi 1,Vi 2,Vi 3] 3) (KJ (List.replicate 256 (Vi 1)) 3))) 15)
theorem jM6_nf(K:KF):jM6 K=(K frM6 hM6):=by kernel_rfl
def XSle:SX:=⟨env,[],noEl,λ_=>.unroll 0⟩
theorem XLe_ok:XSle.Ok:=⟨ai,aD,am,.nil⟩
def jM7(Q:Value->AH->Prop):Prop:=cloK XSle 1 (cj 7 bSle) f26 hLe0 frM6 hM6 (endF env hLe0 [] [] [] Q)
end
end Go.T9
