/- A part of the proof. -/
import Derived.Test.YtegefclhhjbfhaaGreatDoorY1
set_option linter.unusedVariables false
set_option linter.unusedSimpArgs false
set_option maxRecDepth 1000000
namespace Go.T9
open Go Go.AM Go.MK Go.HK
noncomputable section
def dU8:Value->UInt8
 | .int .u8 x=>UInt8.ofNat x.toNat
 |_=>0
variable {l:Lg}{k n:Nat}
theorem lU(l:LB):(u8v l).map dU8=l:=by
 unfold u8v;rw[Hl];conv=>rhs;rw[<-Il l]
 refine Ha λx _=>?_;show UInt8.ofNat ((x.toNat:Int).toNat)=x;rw[Gz];simp
theorem heap_u(l:LB):aS [.gro (u8v l) [] 5]=hU l:=by kernel_rfl
theorem EC(l:LB):aS [.dead,.gro (u8v l) [] 5]=hUE l:=by kernel_rfl
set_option maxHeartbeats 400000
theorem isB_u(l:LB):IsB (u8v l) 0 l.length/\u8L (u8v l) 0 l.length=l:=by
 have a:(u8v l).length=l.length:=GB _;have e:((u8v l).drop 0).take l.length=u8v l:=by rw[Jc,<-a,Hm]
 refine⟨⟨l,e,rfl⟩,?_⟩;unfold u8L;rw[e];unfold u8v;rw[Hl];conv=>rhs;rw[<-Il l]
 refine Ha λb _=>?_;show UInt8.ofNat ((b.toNat:Int).toNat)=b;rw[Gz];simp
def toN(l:Lh):Lg:=(l.map deI).map Int.toNat
abbrev _root_.Go.Jh:=@List.getElem_of_eq
structure NmOk (a:AU) (l:Lg) (cl:Le) (n:Nat) (f:Nat->Nat):Prop where
 ok:OkL a
 len:cl.length=a.2.2.length
 at':∀ s∈l,∃h:s<cl.length,cl[s]=(f s:Nat)
 lt:∀ s∈l,s<a.2.2.length/\f s<n
 sur:∀ k,k<n->∃ s∈l,f s=k
 cls:∀ s∈l,∀b,b<256->dA a s b∈l
 st:a.1.toNat∈l
 n1:n<=90000
 l1:l.length<=90000
def clA(a:AU)(l:Lg)(n:Nat)(f:Nat->Nat):AU:=((f a.1.toNat:Nat),(List.range n).map (λk=>acN a.2.1 (repM l f k)),(List.range n).map λk=>inF (scM (dA a) l f k))
theorem NmOk.rep{a:AU}{cl:Le}{f:Nat->Nat}(h:NmOk a l cl n f)(b:k<n):repM l f k∈l/\f (repM l f k)=k:=fP (h.sur k b)
theorem FN{a:AU}{f:Nat->Nat}(b:k<n):∃ c:k<(clA a l n f).2.2.length,(clA a l n f).2.2[k]=inF (scM (dA a) l f k):=by refine⟨by show k<((List.range n).map _).length;rw[GB,HL];exact b,?_⟩;have e:(clA a l n f).2.2=(List.range n).map λk=>inF (scM (dA a) l f k):=rfl;rw[Jh e,List.getElem_map,List.getElem_range]
theorem CM(δ :Nat->Nat->Nat)(l:Lg)(f:Nat->Nat)(k:Nat):(scM δ l f k).length=256:=by unfold scM;rw[GB,HL]
theorem xu(a:AU)(l:Lg)(n:Nat)(f:Nat->Nat):(clA a l n f).2.2.length=n/\(clA a l n f).2.1.length=n:=by refine⟨?_,?_⟩;show((List.range n).map _).length=n;rw[GB,HL];show((List.range n).map _).length=n;rw[GB,HL]
theorem NmOk.ent{a:AU}{cl:Le}{f:Nat->Nat}(h:NmOk a l cl n f)(d:k<n):∀ x∈scM (dA a) l f k,x<n:=λx b=>by unfold scM at b;obtain⟨c,e,rfl⟩:=GA.1 b;exact(h.lt _ (h.cls _ (h.rep d).1 c (Hz.1 e))).2
theorem NmOk.okL{a:AU}{cl:Le}{f:Nat->Nat}(h:NmOk a l cl n f):OkL (clA a l n f):=by obtain⟨c,m⟩:=xu a l n f;have j:=h.n1;have i:=(h.lt _ h.st).2;refine⟨by omega,by omega,by omega,λr b=>?_,⟨by show(0:Int)<=(f a.1.toNat:Nat);omega,by rw[c];show((f a.1.toNat:Nat):Int)<n;omega⟩,λr b x e=>?_⟩;obtain⟨k,_,rfl⟩:=GA.1 b;rw[aw,CM];obtain⟨k,g,rfl⟩:=GA.1 b;obtain⟨y,d,rfl⟩:=GA.1 e;have:=h.ent (Hz.1 g) y d;rw[c];show(0:Int)<=(y:Int)/\(y:Int)<n;omega
theorem NmOk.dA{a:AU}{cl:Le}{f:Nat->Nat}(h:NmOk a l cl n f)(j:k<n):scR (Go.T9.dA (clA a l n f)) k=scM (Go.T9.dA a) l f k:=by
 obtain⟨i,g⟩:=FN (a:=a) (l:=l) (f:=f) j;unfold scR scM;refine Ha λc b=>?_;have b:=Hz.1 b;obtain⟨s1,d,m⟩:=h.okL.at' i b;have e:(clA a l n f).2.2[k][c]=((f (Go.T9.dA a (repM l f k) c):Nat):Int):=by rw[Jh g];unfold inF scM;rw[List.getElem_map,List.getElem_map,List.getElem_range];rfl
 rw[e]at d;omega
end
end Go.T9
