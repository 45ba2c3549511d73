/- A part of the proof. -/
import Derived.Test.YtegefclhhjbfhaaGreatDoorY2
set_option linter.unusedVariables false
set_option linter.unusedSimpArgs false
set_option maxRecDepth 1000000
set_option maxHeartbeats 400000
namespace Go.T9
open Go Go.AM Go.MK Go.HK
noncomputable section
variable {n:Nat}
structure OdOk (O:AU) (od:Lg) (n:Nat):Prop where
 ok:OkL O
 hn:O.2.2.length=n
 nd:od.Nodup
 lt:∀ k∈od,k<n
 cl:∀ k∈od,∀b,b<256->dA O k b∈od
theorem OdOk.le{O:AU}{od:Lg}(h:OdOk O od n):od.length<=n/\n<=90000:=by have:=cE n od h.nd h.lt;have b:=h.ok.n1;have a:=h.hn;exact⟨this,by omega⟩
def posL(n:Nat)(od:Lg)(i:Nat):Le:=(List.range n).map λk=>(((if k∈od.take i then idN od k else 0:Nat)):Int)
theorem yB(n:Nat)(od:Lg)(i:Nat):(posL n od i).length=n:=by unfold posL;rw[GB,HL]
theorem C8{od:Lg}{i k:Nat}(h:k<n):∃ a:k<(posL n od i).length,(posL n od i)[k]=((if k∈od.take i then idN od k else 0:Nat):Int):=by refine⟨by rw[yB];exact h,?_⟩;unfold posL;rw[List.getElem_map,List.getElem_range]
theorem OdOk.pos{O:AU}{od:Lg}(h:OdOk O od n){k:Nat}(a:k∈od):∃ b:k<(posL n od od.length).length,(posL n od od.length)[k]=(idN od k:Nat):=by obtain⟨b,c⟩:=C8 (n:=n) (od:=od) (i:=od.length) (h.lt _ a);refine⟨b,?_⟩;rw[c,Hm,Gw a]
def odL(O:AU):Lg:=rfL (dA O) O.1.toNat
theorem NmOk.od{a:AU}{l:Lg}{cl:Le}{f:Nat->Nat}(h:NmOk a l cl n f):OdOk (clA a l n f) (odL (clA a l n f)) n:=by have d:=RAL.of h.okL;have e:=(xu a l n f).1;refine⟨h.okL,e,d.ei.nd,λk c=>?_,λk c b _=>d.cl k c b⟩;have:=d.ei.inp k c;omega
structure LE where
 P:Value->Prop
 q:Le
 Pn:Value->Lh->Lh->Int->Prop
 ra:Li
 rn:La
 s:Int
 acc:Li
 nx:La
def LE.a(v:LE):AU:=(v.s,v.acc,v.nx)
set_option maxHeartbeats 800000
set_option maxHeartbeats 400000
end
end Go.T9
