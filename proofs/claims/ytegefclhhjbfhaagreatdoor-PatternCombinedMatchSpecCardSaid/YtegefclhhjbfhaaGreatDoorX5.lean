/- A part of the proof. -/
import Derived.Test.YtegefclhhjbfhaaGreatDoorX4
set_option linter.unusedVariables false
set_option linter.unusedSimpArgs false
set_option maxRecDepth 1000000
namespace Go.T9
open Go Go.AM Go.MK
noncomputable section
set_option maxHeartbeats 1000000
structure DW (F:Lg) (ac:Li) (rw:La):Prop where
 n0:0<rw.length
 n1:rw.length<=90000
 acl:ac.length=rw.length
 row:∀ r∈rw,r.length=F.length
 ent:∀ r∈rw,∀x∈r,0<=x/\x<rw.length
 fl:F.length<=256
 fb:∀ c∈F,c<256
theorem blV_set(l:Li)(i:Nat)(b:Bool):(blV l).set i (.bool b)=blV (l.set i b):=by unfold blV;rw[List.map_set]
theorem dw_ei{st:PR->Nat->PR}{F:Lg}{P:PR->Prop}{N:Nat}{i:PR}{ks:List PR}(ac:PR->Bool)(h:EI (scF F st) P N i ks ks.length)(p:ks.length<=90000)(o:∀ c∈F,c<256)(d:F.length<=256):DW F (ks.map ac) (bc (scF F st) ks ks.length):=by
 have g:(bc (scF F st) ks ks.length).length=ks.length:=by unfold bc;grind
 have a:∀ r∈bc (scF F st) ks ks.length,∃k∈ks,r=nums ks (scF F st k):=λr b=>by unfold bc at b;grind
 have q:0<ks.length:=by have:=h.hd;grind
 refine⟨by omega,by omega,by rw[g,Hp],λr b=>?_,λr b x f=>?_,d,o⟩;obtain⟨k,_,rfl⟩:=a r b;rw[b6];exact Hp _;obtain⟨k,m,rfl⟩:=a r b;unfold nums at f;obtain⟨s,l,rfl⟩:=Hn.1 f;obtain⟨j,n,e⟩:=IA.1 m;have:=ot (h.cl j k n (by grind) s l);rw[g];omega
end
end Go.T9
