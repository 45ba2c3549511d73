/- A part of the proof. -/
import Derived.Test.YthnclaleojkecaaGreatDoorX4
import Derived.Test.YthnclaleojkecaaGreatDoorF2
import Derived.Test.YthnclaleojkecaaGreatDoorH
import Derived.Test.YthnclaleojkecaaGreatDoorX2
import Derived.Test.YthnclaleojkecaaGreatDoorX3
import Derived.Test.YthnclaleojkecaaGreatDoorX1
set_option linter.unusedVariables false
set_option linter.unusedSimpArgs false
set_option linter.unusedSectionVars false
set_option maxRecDepth 1000000
namespace Go.T9
open Go Go.AM Go.MK Go.Proofs.Tryz
noncomputable section
def cDel(B B2:Nat):Value:=.func (.func 77) ⟨[]⟩ ⟨[.pointer (some ⟨B,0,none⟩),.pointer (some ⟨B2,0,none⟩)]⟩
def hDl(l o:Le)(fr:Int)(m:Nat):AH:=⟨(Nd (Nd (Nd Lf (some (.cells [groS 4 o.length,groS 5 m] 82)) Lf) (some (.cells [.pointer (some ⟨3,0,none⟩)] 79)) (Nd Lf (some (.dead)) Lf)) (some (groI l)) (Nd (Nd Lf (some (groI o)) Lf) (some (.cells [.int .i64 fr] 3)) Lf)),6⟩
def frId(n i:Nat):T Value:=(Nd (Nd (Nd (Nd Lf (some (.int .i64 n)) Lf) none Lf) (some (cDel 1 2)) Lf) (some (groS 0 n)) (Nd (Nd (Nd Lf (some (.int .i64 i)) Lf) none Lf) none Lf))
def XId:SX:=⟨env,[],elI,λ_=>.autoN [] [] [] [0,1,7,8]⟩
theorem BD:XId.Ok:=⟨am,aE,ap,.nil⟩
def kFinId(K:KV):KX:=finK XId.E (f31.results).toList K
def jId(K:KV)(l o:Le)(fr:Int)(m:Nat):Prop:=bh XId 2 f31 [groS 0 l.length,cDel 1 2] (hDl l o fr m) K
def jIdL(K:KV)(again:KF)(l o:Le)(fr:Int)(m i:Nat):Prop:=aI XId 2 (Func.ntmps f31) (hDl l o fr m) (au f31) [1,0,1,0] (kFinId K) [] [] [] [0,1,7,8] again (frId l.length i) (hDl l o fr m)
def hitD(o:Le)(fr x:Int):Bool:=decide (o.getD x.toNat 0=fr)
def ixD(o:Le)(fr:Int):Le->Nat->Int
 | [],_=> -1
 |x::l,i=>bif hitD o fr x then(i:Int)else ixD o fr l (i+1)
def bz(o:Le)(fr:Int)(l:Le):Le:=l.filter λx=> !hitD o fr x
def spId:Lh->List AObj->Option (Ll×Value×List AObj)
 | [.slice (some ⟨B,b,none⟩) n k,.func (.func g) ⟨[]⟩ ⟨[.pointer (some ⟨B1,b1,none⟩),.pointer (some ⟨B2,b2,none⟩)]⟩],[.gro l tl e,.cells [.pointer (some ⟨B3,b3,none⟩)] e1,.cells [.int .i64 fr] e2,.cells [.slice (some ⟨B4,b4,none⟩) n4 k4,.slice (some ⟨B5,b5,none⟩) n5 k5] e3,.gro o tl4 e4,.dead]=>
  bif (((Nat.beq B 0&&Nat.beq b 0)&&(Nat.beq k (unk+3+1)&&Nat.beq g 77))&&((Nat.beq B1 1&&Nat.beq b1 0)&&(Nat.beq B2 2&&Nat.beq b2 0)))&&((((Nat.beq B3 3&&Nat.beq b3 0)&&(Nat.beq B4 4&&Nat.beq b4 0))&&((Nat.beq B5 5&&Nat.beq b5 0)&&(Nat.beq k4 (unk+3+1)&&Nat.beq k5 (unk+3+1))))&&((Nat.beq e 3&&Nat.beq e1 79)&&(Nat.beq e2 3&&(Nat.beq e3 82&&Nat.beq e4 3))))then
   some (some ((tl=[]/\tl4=[])/\(l=inV (l.map deI)/\n=l.length)/\(o=inV (o.map deI)/\n4=o.length)/\(∀x∈l.map deI,0<=x/\x<o.length)/\l.length<4611686018427387904),
    .int .i64 (ixD (o.map deI) fr (l.map deI) 0),[.gro l [] e,.cells [.pointer (some ⟨B3,b3,none⟩)] e1,.cells [.int .i64 fr] e2,.cells [.slice (some ⟨B4,b4,none⟩) n4 k4,.slice (some ⟨B5,b5,none⟩) n5 k5] e3,.gro o [] e4,.dead])else none
 |_,_=>none
def frDl(n:Nat)(i j:Int):T Value:=(Nd (Nd Lf (some (cDel 1 2)) (Nd Lf (some (.int .i64 i)) Lf)) (some (groS 0 n)) (Nd Lf none (Nd Lf (some (.int .i64 j)) Lf)))
def XDl:SX:=⟨env,[(31,frmQ noAr [5] spId)],elI,λ_=>.autoN [] [] [] [0,1,5,6]⟩
def kFinDl(K:KV):KX:=finK XDl.E (f76.results).toList K
def jDl(K:KV)(l o:Le)(fr:Int)(m:Nat):Prop:=bh XDl 2 f76 [groS 0 l.length,cDel 1 2] (hDl l o fr m) K
def jDlL(K:KV)(again:KF)(l0 l o:Le)(fr:Int)(m i j:Nat):Prop:=aI XDl 2 (Func.ntmps f76) (hDl l0 o fr m) (au f76) [1,1,1,0,1,0] (kFinDl K) [] [] [] [0,1,5,6] again (frDl l.length i j) (hDl l o fr m)
noncomputable def nMt:Nat:=Func.ntmps f42
noncomputable def bMt:Code:=au f42
def elMt:El:={elT [35] [42]with app:=true,gm:=λ_=>true}
def nsMt:List (NPos×TypeId×Nat):=[(.slot 4,3,1)]
def slMt:Lg:=[1,3,4,5]
def uE:Lg:=[1,3,4,5,6]
def pMt:Lg:=[1,1,1,1,0,1,0]
def pMtI:Lg:=[1,0,0,1,0]
def XMt:SX:=⟨env,[],elMt,λk=>bif Nat.beq k 5 then .autoN nsMt [] [] slMt else .autoN [] [] [] uE⟩
def kY(K:KV):KX:=finK XMt.E (f42.results).toList K
def frMt(n m i:Nat):T Value:=(Nd (Nd (Nd Lf (some (groS 1 n)) Lf) (some (.pointer (some ⟨0,0,none⟩))) (Nd Lf (some (.int .i64 i)) Lf)) none (Nd (Nd Lf (some (groS 2 m)) Lf) none Lf))
def EX(n m i b:Nat):T Value:=(Nd (Nd (Nd Lf (some (groS 1 n)) Lf) (some (.pointer (some ⟨0,0,none⟩))) (Nd Lf (some (.int .i64 i)) Lf)) none (Nd (Nd Lf (some (groS 2 m)) Lf) none (Nd Lf (some (.int .i64 b)) Lf)))
def hMt(s:Int)(acc:Li)(nx:La)(sn:Li)(q:Le):AH:=⟨(Nd (Nd Lf (some (groB sn)) Lf) (some (auC s acc nx)) (Nd Lf (some (groI q)) Lf)),3⟩
def jMt(K:KV)(s:Int)(acc:Li)(nx:La):Prop:=bh XMt 1 f42 [.agg ⟨[.int .i64 s,dat 1 (blV acc),dat 1 (roV nx)]⟩] ⟨.leaf,0⟩ K
def jMtL(K:KV)(again:KF)(s:Int)(acc:Li)(nx:La)(sn:Li)(q:Le)(i:Nat):Prop:=aI XMt 1 nMt ⟨.leaf,0⟩ bMt pMt (kY K) nsMt [] [] slMt again (frMt sn.length q.length i) (hMt s acc nx sn q)
noncomputable def kMt2(K:KV)(again2:KF):KX:=stepF XMt 1 nMt ⟨.leaf,0⟩ bMt pMt (kY K) nsMt [] [] slMt again2
def jMtI(K:KV)(again2 again:KF)(s:Int)(acc:Li)(nx:La)(sn:Li)(q:Le)(i b:Nat):Prop:=aI XMt 1 nMt ⟨.leaf,0⟩ (ak (subC pMt bMt)) pMtI (kMt2 K again2) [] [] [] uE again (EX sn.length q.length i b) (hMt s acc nx sn q)
end
end Go.T9
set_option maxRecDepth 100000
namespace Go.T9
open Go.HK
section
variable {S:Type}[DecidableEq S]
theorem ky:∀ (l q:List S),addS q l=ddA q l
 | [],q=>rfl
 |x::l,q=>by simp only[addS,ddA];by_cases h:x∈q;rw[E' h,E' h];exact ky l q;rw[C' h,C' h];exact ky l _
theorem ka(sc:S->List S):∀ (f:Nat) (q:List S) (i:Nat),exS sc f q i=bfsK sc f q i
 |0,q,i=>rfl
 | f+1,q,i=>by
  simp only[exS,bfsK];cases q[i]? with
  |none=>rfl
  |some s=>simp only[ky];exact ka sc f _ _
theorem rU:∀ (l:List S) (k:S),idN l k=ixK l k
 | [],k=>rfl
 |x::l,k=>by simp only[idN,ixK,rU l k]
theorem nU(sc:S->List S)(ks:List S):bA sc ks ks.length=(tabK sc ks).map (λr=>r.map Int.ofNat):=by unfold bA tabK;rw[Hh,Hp];refine GT λk _=>?_;unfold nums;show _=((sc k).map (ixK ks)).map Int.ofNat;rw[Hp];exact GT λs _=>by rw[rU];rfl
def iR(st:S->Nat->S)(ac:S->Bool)(k:S):Lang:=λw=>ac (w.foldl (λs c=>st s (c%256)) k)
end
def dlt(rw:La)(x c:Nat):Nat:=((rw.getD x []).getD c 0).toNat
def acN(ac:Li)(x:Nat):Bool:=ac.getD x false
def clN(C:Le)(c:Nat):Nat:=(C.getD (c%256) 0).toNat
section
variable {S:Type}[DecidableEq S]
theorem qn{st:S->Nat->S}{F:Lg}{P:S->Prop}{N:Nat}{e:S}{ks:List S}(h:EI (λk=>F.map (st k)) P N e ks ks.length){k:S}(b:k∈ks){j c:Nat}(d:F[j]? =some c):
 dlt (bA (λk=>F.map (st k)) ks ks.length) (idN ks k) j=idN ks (st k c)/\st k c∈ks:=by have a:=oA b;refine⟨?_,h.cl (idN ks k) k (rT b) a _ (Gv.2 ⟨c,GO d,rfl⟩)⟩;unfold dlt bA;rw[Hh,GB (l:=List.map _ ks),GQ,a];simp only[Hz,Iv,nums];rw[GB,GQ,GQ,d];simp
theorem mz{st:S->Nat->S}{F:Lg}{C:Le}{P:S->Prop}{N:Nat}{e:S}{ks:List S}(h:EI (λk=>F.map (st k)) P N e ks ks.length)(a:∀ c,c<256->∃ c',F[(C.getD c 0).toNat]? =some c'/\∀ k,P k->st k c'=st k c)(ac:S->Bool):
 ∀(w:Lg) {k:S},k∈ks->acN (ks.map ac) (runW (dlt (bA (λk=>F.map (st k)) ks ks.length)) (idN ks k) (w.map (clN C)))=iR st ac k w
 | [],k,hk=>by show acN (ks.map ac) (idN ks k)=ac k;unfold acN;rw[GB,GQ,oA hk];rfl
 |c::w,k,hk=>by obtain⟨c',i,g⟩:=a (c%256) (Ih _ (by decide));obtain⟨d,b⟩:=qn h hk i;have j:=g k (h.inp k hk);rw[j]at d b;have f:=mz h a ac w b;show acN (ks.map ac) (runW _ (dlt _ (idN ks k) (clN C c)) (w.map (clN C)))=iR st ac (st k (c%256)) w;rw[<-f];unfold clN;rw[d]
end
variable {n x0:Nat}{δ:Nat->Nat->Nat}
theorem gg(key:Nat->LB){c:Nat}(h:c≠n):(clsC key (n+1)).getD c 0=(clsC key n).getD c 0:=by show((clsC key n).set n _).getD c 0=_;rw[GB,Hm,C' (λe=>h e.symm),GB]
theorem ki(key:Nat->LB)(h:n<256):(clsC key (n+1)).getD n 0=(idN (clsK key n) (key n):Nat):=by show((clsC key n).set n _).getD n 0=_;rw[GB,Hm,E' rfl,E' (by rw[m8];exact h)];rfl
theorem xg(key:Nat->LB):∀ n,n<=256->∀ c,c<n->∃ c',(clsF key n)[((clsC key n).getD c 0).toNat]? =some c'/\key c'=key c
 |0,_,c,h=>by omega
 | n+1,hn,c,hc=>by
  by_cases e:c=n;subst e;rw[ki key (by omega),Gs];by_cases a:key c∈clsK key c;rw[gJ a];have:=oA a;unfold clsK at this ⊢;rw[GQ]at this;cases d:(clsF key c)[idN ((clsF key c).map key) (key c)]? with
  |none=>rw[d]at this;cases this
  |some y=>rw[d]at this;exact⟨y,rfl,Hf this⟩
  rw[gK a,i8 a,jd];exact⟨c,by simp,rfl⟩;rw[gg key e];obtain⟨c',b,f⟩:=xg key n (by omega) c (by omega);refine⟨c',?_,f⟩;by_cases a:key n∈clsK key n;rw[gJ a];exact b;rw[gK a,He (Gw.1 b).1];exact b
theorem iv(key:Nat->LB):∀ n,n<=256->∀ j c,(clsF key n)[j]? =some c->(clsC key n).getD c 0=(j:Nat)
 |0,_,j,c,h=>by simp[clsF]at h
 | n+1,hn,j,c,h=>by
  by_cases a:key n∈clsK key n;rw[gJ a]at h;have:=gd key n c (GO h);rw[gg key (by omega)];exact iv key n (by omega) j c h;rw[gK a]at h;by_cases e:j<(clsF key n).length;rw[He e]at h;have:=gd key n c (GO h);rw[gg key (by omega)];exact iv key n (by omega) j c h;have b:j<(clsF key n++[n]).length:=(Gw.1 h).1;rw[Gr,List.length_singleton]at b;have d:j=(clsF key n).length:=by omega
  rw[d,Ht (GE _),Il]at h;have f:n=c:=by simpa using h
  rw[<-f,ki key (by omega),i8 a,jd,d]
def alkD(F:Lg)(ac:Li)(rw:La):HS:=da (dlt rw) rw.length F.length (acN ac)
def lsSc(C:Le)(F:Lg)(ac:Li)(rw:La):Nat->Lg:=scB (dlt rw) (clN C) (alkD F ac rw)
def lsO(C:Le)(F:Lg)(ac:Li)(rw:La):Lg:=bfsK (lsSc C F ac rw) 90001 [oN (alkD F ac rw).of 0] 0
def lsT(C:Le)(F:Lg)(ac:Li)(rw:La):List Lg:=tabK (lsSc C F ac rw) (lsO C F ac rw)
def lsA(C:Le)(F:Lg)(ac:Li)(rw:La):Li:=(lsO C F ac rw).map λb=>acN ac (hd (alkD F ac rw) b)
def scR(δ :Nat->Nat->Nat)(x:Nat):Lg:=(List.range 256).map (δ x)
def rfL(δ :Nat->Nat->Nat)(x0:Nat):Lg:=bfsK (scR δ) 90001 [x0] 0
def ac01(acc:Nat->Bool)(x:Nat):Nat:=if acc x then 1 else 0
def rfC(δ :Nat->Nat->Nat)(acc:Nat->Bool)(x0:Nat):Nat->Nat:=(rndM δ 256 (rfL δ x0) 90003 (ac01 acc) 0).1
def rfSc(δ :Nat->Nat->Nat)(acc:Nat->Bool)(x0:Nat):Nat->Lg:=scM δ (rfL δ x0) (rfC δ acc x0)
def rfO(δ :Nat->Nat->Nat)(acc:Nat->Bool)(x0:Nat):Lg:=bfsK (rfSc δ acc x0) 90001 [rfC δ acc x0 x0] 0
def rfT(δ :Nat->Nat->Nat)(acc:Nat->Bool)(x0:Nat):List Lg:=tabK (rfSc δ acc x0) (rfO δ acc x0)
def rfA(δ :Nat->Nat->Nat)(acc:Nat->Bool)(x0:Nat):Li:=(rfO δ acc x0).map λk=>acc (repM (rfL δ x0) (rfC δ acc x0) k)
structure RA (δ :Nat->Nat->Nat) (n x0:Nat):Prop where
 st:x0<n
 ent:∀ x,x<n->∀ c, δ x c<n
 per:∀ x c, δ x c= δ x (c%256)
 n1:n<=90000
theorem RA.ei(h:RA δ n x0):EI (scR δ) (λx=>x<n) 90001 x0 (rfL δ x0) (rfL δ x0).length:=by
 have e:=h.n1;have:=EI.run (sc:=scR δ) (P:=λx=>x<n) (N:=90001) (st:=x0) (λk d s a=>by obtain⟨c,_,rfl⟩:=Gv.1 a;exact h.ent k d c) (λl hd b=>by have:=cF n l hd b;omega) 90001 (EI.init h.st) rfl
 rw[ka]at this;exact this
theorem RA.cl(h:RA δ n x0):∀ s∈rfL δ x0,∀b, δ s b∈rfL δ x0:=λs c b=>by rw[h.per s b];obtain⟨i,a⟩:=List.mem_iff_getElem?.1 c;exact h.ei.cl i s (Gw.1 a).1 a _ (Gv.2 ⟨b%256,Hv.2 (Ih _ (by decide)),rfl⟩)
theorem RA.len(h:RA δ n x0):(rfL δ x0).length<=n:=cF n _ h.ei.nd h.ei.inp
theorem RA.mem(h:RA δ n x0):x0∈rfL δ x0:=GO h.ei.hd
theorem qR{δ :Nat->Nat->Nat}(h:∀ x c, δ x c= δ x (c%256)):∀ (w:Lg) (x:Nat),runW δ x (w.map λc=>c%256)=runW δ x w
 | [],x=>rfl
 |c::w,x=>by show runW δ (δ x (c%256)) (w.map λc=>c%256)=runW δ (δ x c) w;rw[qR h w,<-h x c]
theorem rz(h:∀ x c, δ x c= δ x (c%256))(acc:Nat->Bool)(x:Nat):bW δ (λc=>c%256) acc x=bW δ id acc x:=by funext w;unfold bW;rw[qR h,HZ]
theorem RA.cls(h:RA δ n x0)(acc:Nat->Bool):∀ s∈rfL δ x0,∀t∈rfL δ x0,(rfC δ acc x0 s=rfC δ acc x0 t↔bW δ id acc s=bW δ id acc t):=λs a t d=>by
 have m:=h.len;have o:=h.n1;obtain⟨i,_⟩:=pu (δ := δ) (nb:=256) (l:=rfL δ x0) (acc:=acc) (λs a b _=>h.cl s a b) 90003 (cl:=ac01 acc) (c:=0) (λs _ t _ e=>by
  have:=e [] (λc g=>by cases g);unfold ac01;have j:acc s=acc t:=this;rw[j]) (λs _ t _ e=>by
  unfold ac01 at e;cases a:acc s<;>cases d:acc t<;>simp[a,d]at e ⊢) (.inr ⟨rfl,I1 h.mem⟩) (by omega)
 unfold rfC;rw[i s a t d,<-i7 (cls:=λc=>c%256) (λc=>Ih _ (by decide)) (λk f=>⟨k,Iu f⟩),rz h.per,rz h.per]
section
variable {S:Type}[DecidableEq S]
theorem mD:∀ {l:List S},l.Nodup->∀ (i:Nat) (h:i<l.length),idN l l[i]=i
 | [],_,i,h=>by simp at h
 |x::l,hn,0,h=>by simp[idN]
 | x::l,hn,i+1,h=>by
  rw[List.nodup_cons]at hn;have b:i<l.length:=by simpa using h
  have a:¬ x=l[i]:=λe=>hn.1 (e▸Gy b);show idN (x::l) l[i]=i+1;simp only[idN,C' a,mD hn.2 i b]
structure GD (st:S->Nat->S) (P:S->Prop) (C:Le) (F:Lg) (s0:S) (ks:List S):Prop where
 ei:EI (λk=>F.map (st k)) P 90001 s0 ks ks.length
 cl:∀ c,c<256->∃ c',F[(C.getD c 0).toNat]? =some c'/\∀ k,P k->st k c'=st k c
 sur:∀ k,k<F.length->∃ c,clN C c=k
theorem GD.of{st:S->Nat->S}{P:S->Prop}{key:Nat->LB}{f:S}{ks:List S}(C:Le)(F:Lg)(h:C=clsC key 256)(d:F=clsF key 256)(n:EI (λk=>F.map (st k)) P 90001 f ks ks.length)(a:∀ k,P k->∀ c c',c<256->c'<256->key c'=key c->st k c'=st k c):GD st P C F f ks:=by have j:=xg key 256 (GE _);have i:=iv key 256 (GE _);have e:=gd key 256;rw[<-h,<-d]at j i;rw[<-d]at e;clear h d;refine⟨n,λc g=>?_,λk a=>?_⟩;obtain⟨c',l,o⟩:=j c g;exact⟨c',l,λk m=>a k m c c' g (e c' (GO l)) o⟩;have b:=e _ (Gy a);refine⟨F[k],?_⟩;unfold clN;rw[Iu b,i k _ (Gq a),Gs]
variable {st:S->Nat->S}{P:S->Prop}{C:Le}{F:Lg}{s0:S}{ks:List S}{ac:S->Bool}
theorem GD.mem0(h:GD st P C F s0 ks):s0∈ks/\idN ks s0=0:=by
 have a:=h.ei.hd;refine⟨GO a,?_⟩;cases ks with
 |nil=>simp at a
 |cons x ks=>simp at a;subst a;simp[idN]
theorem GD.rlen(ks:List S):(bA (λk=>F.map (st k)) ks ks.length).length=ks.length:=by unfold bA;rw[Hh,Gu]
theorem GD.dlt(h:GD st P C F s0 ks):∀ x,x<ks.length->∀ c,c<F.length->Go.T9.dlt (bA (λk=>F.map (st k)) ks ks.length) x c<ks.length:=λx a c d=>by obtain⟨b,e⟩:=qn h.ei (Gy a) (Gq d);rw[mD h.ei.nd x a]at b;rw[b];exact rT e
theorem GD.clN(h:GD st P C F s0 ks):∀ c,Go.T9.clN C c<F.length:=λc=>by obtain⟨b,a,_⟩:=h.cl (c%256) (Ih _ (by decide));exact(Gw.1 a).1
theorem jY(δ :Nat->Nat->Nat)(cls:Nat->Nat)(acc:Nat->Bool)(x:Nat):bW δ cls acc x []=acc x:=rfl
theorem vL(h:GD st P C F s0 ks){δ :Nat->Nat->Nat}{n x0:Nat}{acc:Nat->Bool}(i:RA δ n x0)(g:Bool->Bool)(D:∀ x y,g x=g y->x=y)(B:(λw=>g (bW δ id acc x0 w))=iR st ac s0):
 lsT C F (ks.map ac) (bA (λk=>F.map (st k)) ks ks.length)=rfT δ acc x0/\lsA C F (ks.map ac) (bA (λk=>F.map (st k)) ks ks.length)=(rfA δ acc x0).map g:=by
 obtain⟨r,z⟩:=h.mem0;have o:0<ks.length:=In r;have m:=GD.rlen (st:=st) (F:=F) ks;have j:=h.dlt;have d:=mz h.ei h.cl ac;generalize A:bA (λk=>F.map (st k)) ks ks.length=rw at*;obtain⟨f,t⟩:=jh (δ :=Go.T9.dlt rw) (n:=ks.length) (nc:=F.length) (acc:=acN (ks.map ac)) o j;have q:alkD F (ks.map ac) rw=da (Go.T9.dlt rw) ks.length F.length (acN (ks.map ac)):=by unfold alkD;rw[m]
 obtain⟨U,b2,R⟩:=lC (cls:=Go.T9.clN C) j h.clN h.sur f t;obtain⟨Q,O,M⟩:=kj (δ := δ) (acc:=acc) (l:=rfL δ x0) (cl:=rfC δ acc x0) i.cl (i.cls acc);have c:=f.lt 0 o;obtain⟨K,J⟩:=kE f c;obtain⟨v,u⟩:=fL (l:=rfL δ x0) (cl:=rfC δ acc x0) ⟨x0,i.mem,rfl⟩;unfold lsT lsA lsO lsSc rfT rfA rfO rfSc;rw[q];generalize V:da (Go.T9.dlt rw) ks.length F.length (acN (ks.map ac))=s at*;have E:bW (Go.T9.dlt rw) (Go.T9.clN C) (acN (ks.map ac)) (hd s (oN s.of 0))=λw=>g (bW δ id acc (repM (rfL δ x0) (rfC δ acc x0) (rfC δ acc x0 x0)) w):=by rw[(i7 h.clN h.sur).2 ((t _ K 0 o).1 J),(i.cls acc _ v x0 i.mem).1 u,B];funext w;have:=d w r;rw[z]at this;exact this
 generalize 90001=N;obtain⟨I,H⟩:=yV (P1:=λb=>b<s.mem.length) (P2:=λk=>∃ s∈rfL δ x0,rfC δ acc x0 s=k) (l2:=λk w=>g (bW δ id acc (repM (rfL δ x0) (rfC δ acc x0) k) w)) U b2 R c (λa b G p e=>Q a b G p (funext λw=>D _ _ (congrFun e w))) (λb p=>by have:=Hu (List.map λ(L:Lang) w=>g (L w)) (O b p);rw[Hp]at this;refine Eq.trans this ?_;unfold scL;rw[Hp];rfl) M ⟨x0,i.mem,rfl⟩ E N
 refine⟨I,?_⟩;have:=Hu (List.map λL:Lang=>L []) H;rw[Hp,Hp]at this;rw[Hp];refine Eq.trans ?_ (Eq.trans this ?_);exact GT λb _=>(jY (Go.T9.dlt rw) (Go.T9.clN C) (acN (ks.map ac)) (hd s b)).symm;exact GT λk _=>Hu g (jY δ id acc (repM (rfL δ x0) (rfC δ acc x0) k))
theorem tt(h:GD st P C F s0 ks){δ :Nat->Nat->Nat}{n x0:Nat}{acc:Nat->Bool}(b:RA δ n x0)(c:bW δ id acc x0=iR st ac s0):
 lsT C F (ks.map ac) (bA (λk=>F.map (st k)) ks ks.length)=rfT δ acc x0/\lsA C F (ks.map ac) (bA (λk=>F.map (st k)) ks ks.length)=rfA δ acc x0:=by obtain⟨d,a⟩:=vL (ac:=ac) h b id (λ_ _ e=>e) c;rw[HZ]at a;exact⟨d,a⟩
end
abbrev _root_.Go.HD:=@Eq.refl
section
variable {S:Type}[DecidableEq S]
theorem wQ{sc:S->List S}{Q:S->Prop}(b:∀ k,Q k->∀ s∈sc k,Q s):∀ (f:Nat) (q:List S) (i:Nat),(∀x∈q,Q x)->∀ x∈exS sc f q i,Q x
 |0,q,i,hq=>hq
 | f+1,q,i,hq=>by
  simp only[exS];cases h:q[i]? with
  |none=>exact hq
  |some s=>refine wQ b f _ _ λx c=>?_;rcases fB c with a|a;exact hq x a;exact b s (hq s (GO h)) x a
variable {st:S->Nat->S}{P:S->Prop}{C:Le}{F:Lg}{s0:S}{ks:List S}{ac:S->Bool}
theorem GD.ks_eq(h:GD st P C F s0 ks):ks=exS (λk=>F.map (st k)) 90001 [s0] 0:=by
 rw[<-h.ei.fin];generalize 90001-ks.length=m;cases m with
 |zero=>rfl
 |succ m=>show _=(match ks[ks.length]? with|none=>ks|some s=>exS (λk=>F.map (st k)) m (addS ks (F.map (st s))) (ks.length+1));rw[Hs (GE _)]
theorem Dd(h:GD st P C F s0 ks)(hP:ks.length<=90000):(lsO C F (ks.map ac) (bA (λk=>F.map (st k)) ks ks.length)).length=(alkD F (ks.map ac) (bA (λk=>F.map (st k)) ks ks.length)).mem.length:=by
 obtain⟨H,K⟩:=h.mem0;have I:0<ks.length:=In H;have v:=GD.rlen (st:=st) (F:=F) ks;have f:=h.dlt;have A:∀ {k:S},k∈ks->∀ {j c:Nat},F[j]? =some c->Go.T9.dlt (bA (λk=>F.map (st k)) ks ks.length) (idN ks k) j=idN ks (st k c)/\st k c∈ks:=λp _ _ u=>qn h.ei p u;generalize M:bA (λk=>F.map (st k)) ks ks.length=rw at*;obtain⟨d,E⟩:=jh (δ :=Go.T9.dlt rw) (n:=ks.length) (nc:=F.length) (acc:=acN (ks.map ac)) I f;have D:alkD F (ks.map ac) rw=da (Go.T9.dlt rw) ks.length F.length (acN (ks.map ac)):=by unfold alkD;rw[v]
 obtain⟨b1,b2,b3⟩:=lC (cls:=Go.T9.clN C) f h.clN h.sur d E;unfold lsO lsSc;rw[D];generalize hs:da (Go.T9.dlt rw) ks.length F.length (acN (ks.map ac))=s at*;have V:=d.le;have a:=EI.run (sc:=scB (Go.T9.dlt rw) (Go.T9.clN C) s) (P:=λb=>b<s.mem.length) (N:=90001) (st:=oN s.of 0) b3 (λl hd R=>by have:=cF s.mem.length l hd R;omega) 90001 (EI.init (d.lt 0 I)) rfl;rw[ka]at a;have r:=h.ks_eq;generalize 90001=N at a r ⊢;generalize bfsK (scB (Go.T9.dlt rw) (Go.T9.clN C) s) N [oN s.of 0] 0=o at*;have w:∀ k∈ks,k∈ks/\oN s.of (idN ks k)∈o:=by
  have O:=wQ (sc:=λk=>F.map (st k)) (Q:=λk=>k∈ks/\oN s.of (idN ks k)∈o) (λk ⟨p,U⟩ x q=>by
   obtain⟨c,X,rfl⟩:=Gv.1 q;obtain⟨j,u⟩:=List.mem_iff_getElem?.1 X;obtain⟨e1,e2⟩:=A p u;refine⟨e2,?_⟩;have e:=(Gw.1 u).1;obtain⟨y,L⟩:=h.sur j e;obtain⟨i,J⟩:=List.mem_iff_getElem?.1 U;have g:=rT p;have B:=d.lt _ g;obtain⟨t,G⟩:=kE d B;have z:oN s.of (Go.T9.dlt rw (hd s (oN s.of (idN ks k))) j)=oN s.of (Go.T9.dlt rw (idN ks k) j):=(E _ (f _ t j e) _ (f _ g j e)).2 (((E _ t _ g).1 G).next e);have:=a.cl i _ (Gw.1 J).1 J (oN s.of (Go.T9.dlt rw (hd s (oN s.of (idN ks k))) j)) (by
    unfold scB;refine Gv.2 ⟨y%256,Hv.2 (Ih _ (by decide)),?_⟩;have:Go.T9.clN C (y%256)=j:=by rw[<-L];unfold Go.T9.clN;rw[Nat.mod_mod]
    rw[this])
   rw[z,e1]at this;exact this) N [s0] 0 (λx q=>by
   rw[GZ.1 q];exact⟨H,by rw[K];exact GO a.hd⟩)
  intro k p;exact O k (r▸p)
 have Z:=ct (l:=o) (m:=List.range s.mem.length) a.nd λx q=>Hv.2 (a.inp x q);have Y:=ct (l:=List.range s.mem.length) (m:=o) List.nodup_range λb B=>by obtain⟨t,G⟩:=kE d (Hv.1 B);have:=(w _ (Gy t)).2;rw[mD h.ei.nd _ t,G]at this;exact this
 rw[Hg]at Z Y;omega
end
def dA(a:AU)(x c:Nat):Nat:=((a.2.2.getD x []).getD (c%256) 0).toNat
theorem dA_per(a:AU)(x c:Nat):dA a x c=dA a x (c%256):=by unfold dA;rw[Nat.mod_mod]
def tH(a:AU):Lang:=bW (dA a) id (acN a.2.1) a.1.toNat
theorem dA_stp{a:AU}{q:Int}(c:Nat):dA a q.toNat c=(stp a.2.2 q (c%256)).toNat:=rfl
theorem RA.of{a:AU}(h:OkA a):RA (dA a) a.2.2.length a.1.toNat:=by have g:=h.st;have f:=h.n1;refine⟨by omega,λx d c=>?_,dA_per a,by omega⟩;have:=iz h (q:=(x:Int)) (by omega) (by omega) (b:=c%256) (Ih _ (by decide));have e:dA a x c=(stp a.2.2 (x:Int) (c%256)).toNat:=rfl;rw[e];omega
theorem AY{a:AU}(h:OkA a):∀ (w:Lg) (q:Int),inA a q->iR (stS a) (acS a) (q,0) w=acN a.2.1 (runW (dA a) q.toNat w)
 | [],q,hq=>rfl
 |c::w,q,hq=>by have d:=iz h hq.1 hq.2 (b:=c%256) (Ih _ (by decide));have:=AY h w (stp a.2.2 q (c%256)) d;rw[<-dA_stp]at this;exact this
theorem zr{a:AU}(h:OkA a):tH a=iR (stS a) (acS a) (a.1,0):=by funext w;rw[AY h w a.1 h.st];unfold tH bW;rw[HZ]
theorem GD.single{a:AU}(h:OkA a):GD (stS a) (inS a) (caS a) (fsS a) (a.1,0) (reS (fsS a) a):=
 by
 have b:fsS a=clsF (keyS a.2.2) 256:=by unfold fsS;exact HD _
 have g:caS a=clsC (keyS a.2.2) 256:=by unfold caS;exact HD _
 have d:∀ c∈fsS a,c<256:=by rw[b];exact λc f=>gd _ _ _ f
 have i:=ei_S h d;generalize fsS a=F at*;generalize caS a=C at*;exact .of (key:=keyS a.2.2) C F g b i λk _ c j _ _ e=>Co h k e
theorem qY{a:AU}(h:OkA a):lsT (caS a) (fsS a) (accS a) (rowS a)=rfT (dA a) (acN a.2.1) a.1.toNat/\lsA (caS a) (fsS a) (accS a) (rowS a)=rfA (dA a) (acN a.2.1) a.1.toNat:=
 by have b:=GD.single h;unfold accS rowS aceS rweS;generalize fsS a=F at*;generalize caS a=C at*;exact tt b (RA.of h) (zr h)
end Go.T9
set_option maxRecDepth 1000000
set_option maxHeartbeats 400000
namespace Go.T9
open Go Go.AM Go.MK Go.HK Go.Proofs.Tryz
noncomputable section
abbrev _root_.Go.JQ:=@List.nodup_nil
abbrev _root_.Go.IB:=@List.range_succ
abbrev Kj:=λa b c=>Sg (g_ a b c)
variable {q:Lg}{i n x:Nat}
theorem Mc(K:KV)(s:Int)(acc:Li)(nx:La):jMt K s acc nx=((0<=Kh nx/\Kh nx<=Kh nx/\Kh nx<=281474976710656/\1*Int.toNat (Kh nx)<=281474976710656)/\(0<=s/\s<Kp (Kh nx))/\Int.toNat (B_ (Int.toNat s+0))<List.length (List.replicate (z_ (Kh nx)) Kw)/\V' acc/\K9 nx/\J0 (List.set (List.replicate (z_ (Kh nx)) Kw) (z_ (B_ (Int.toNat s+0))) Km)/\J0 [Vi s]/\LAtZ XMt 1 f42.ntmps (AH.mk Lf 0) (au f42) [1,1,1,1,0,1,0] (finK (SX.E XMt) f42.results.toList K) (No (Ns (Kj 1 0 (z_ (Kh nx))) h_ (M' 0)) (F_ (U' 2 0 1 18446744073709551620))) (Q_ (KG (List.set (List.replicate (z_ (Kh nx)) Kw) (z_ (B_ (Int.toNat s+0))) Km) 4) (l_ s acc nx) (KG [Vi s] 3) 3)):=by kernel_rfl
theorem jMt_nf:type_of%(by have h:=@Mc;revert h;delta b_ f_ g_ h_ j_ k_ l_ z_ B_ F_ Q_ W_ M' U' V' J0 Kh Kj Km Kp Kw KG K9;exact id):=@Mc
theorem Md(K:KV)(again:KF)(s:Int)(acc:Li)(nx:La)(sn:Li)(q:Le)(i:Nat):jMtL K again s acc nx sn q i=(Sp (decide ((i:Int)<B_ q.length)) (V' acc/\K9 nx/\J0 (blV sn)/\I_ q/\LAtZ XMt 1 nMt (AH.mk Lf 0) (ak (subC pMt bMt)) [1,0,0,1,0] (stepF XMt 1 nMt (AH.mk Lf 0) bMt pMt (kY K) nsMt [] [] slMt again) (No (Ns (Kj 1 0 sn.length) h_ (M' i)) (No (Kj 2 0 q.length) (M' 0))) (Q_ (Sg (Z_ sn)) (l_ s acc nx) (J3 q) 3)) (K (g_ 2 0 q.length) (Q_ (Sg (Z_ sn)) (l_ s acc nx) (J3 q) 3))):=by kernel_rfl
theorem Dx:type_of%(by have h:=@Md;revert h;delta b_ e_ f_ g_ h_ k_ l_ B_ I_ Q_ W_ Z_ M' V' J0 J3 Kj K9;exact id):=@Md
abbrev m_:=λa b=>(↑(Int.toNat (aa a b)+0):Int)
abbrev KP:=λa b c=>r_ a (P_ b c)
theorem Me(K:KV)(again2:KF)(again:KF)(s:Int)(acc:Li)(nx:La)(sn:Li)(q:Le)(i b:Nat):jMtI K again2 again s acc nx sn q i b=(Sp (decide ((b:Int)<256)) ((0<=(i:Int)/\(i:Int)<B_ q.length)/\nth (inV q) i=some (Vi (P_ q i))/\(0<=aa (inV q) i/\aa (inV q) (i:Int)<Kh nx)/\nth (roV nx) (z_ (Kp (P_ q i)))=some (Vd 1 (KP nx q i))/\(0<=(b:Int)/\(b:Int)<j_ (KP nx q i))/\nth (KP nx q i) b=some (Vi (aa (KP nx q i) b))/\(0<=aa (KP nx q i) b/\aa (KP nx q i) (b:Int)<B_ sn.length)/\nth (blV sn) (z_ (m_ (KP nx q i) b))=some (KN (blV sn) (m_ (KP nx q i) b))/\Sp (! aG (blV sn) (m_ (KP nx q i) b)) ((0<=aa (KP nx q i) b/\aa (KP nx q i) (b:Int)<B_ sn.length)/\Int.toNat (m_ (KP nx q i) b)<List.length (blV sn)/\(List.all [Vi (aa (KP nx q i) b)] cellv=true/\List.length q+0=List.length (inV q)/\List.length q+(1:Nat)<=(70368744177664:Nat)/\(List.length q+1)*(8:Nat)<=(140737488355328:Nat))/\V' acc/\K9 nx/\J0 (List.set (blV sn) (z_ (m_ (KP nx q i) b)) Km)/\J0 (inV q++[Vi (aa (KP nx q i) b)])/\again (No (Ns (Kj 1 0 sn.length) h_ (M' i)) (No (Kj 2 0 (List.length q+1)) (v_ ((b:Int)+1)))) (Q_ (KG (List.set (blV sn) (z_ (m_ (KP nx q i) b)) Km) 4) (l_ s acc nx) (KG (inV q++[Vi (aa (KP nx q i) b)]) 3) 3)) (V' acc/\K9 nx/\J0 (blV sn)/\I_ q/\again (No (Ns (Kj 1 0 sn.length) h_ (M' i)) (No (Kj 2 0 q.length) (v_ ((b:Int)+1)))) (Q_ (Sg (Z_ sn)) (l_ s acc nx) (J3 q) 3))) (V' acc/\K9 nx/\J0 (blV sn)/\I_ q/\again2 (No (Ns (Kj 1 0 sn.length) h_ (v_ ((i:Int)+1))) (F_ (g_ 2 0 q.length))) (Q_ (Sg (Z_ sn)) (l_ s acc nx) (J3 q) 3))):=by kernel_rfl
theorem Dy:type_of%(by have h:=@Me;revert h;delta b_ e_ f_ g_ h_ j_ k_ l_ m_ r_ v_ z_ B_ F_ I_ P_ Q_ W_ Z_ M' V' J0 J3 Kh Kj Km Kp KG KN KP K9;exact id):=@Me
structure OkL (a:AU):Prop where
 n0:0<a.2.2.length
 n1:a.2.2.length<=90000
 acc:a.2.1.length=a.2.2.length
 row:∀ r∈a.2.2,r.length=256
 st:0<=a.1/\a.1<a.2.2.length
 ent:∀ r∈a.2.2,∀x∈r,0<=x/\x<a.2.2.length
theorem OkA.toL{a:AU}(h:OkA a):OkL a:=⟨h.n0,by have:=h.n1;omega,h.acc,h.row,h.st,h.ent⟩
theorem OkL.at'{a:AU}(h:OkL a){c:Nat}(d:x<a.2.2.length)(f:c<256):∃ k:c<a.2.2[x].length,a.2.2[x][c]=(dA a x c:Int)/\dA a x c<a.2.2.length:=by
 have g:=h.row _ (Gy d);have b:c<a.2.2[x].length:=by omega
 have j:=h.ent _ (Gy d) _ (Gy b);have e:dA a x c=(a.2.2[x][c]).toNat:=by unfold dA;rw[Iu f,gD d,gD b]
 exact⟨b,by omega,by omega⟩
theorem RAL.of{a:AU}(h:OkL a):RA (dA a) a.2.2.length a.1.toNat:=by
 have g:=h.st;have f:=h.n1;refine⟨by omega,λx b c=>?_,λx c=>by unfold dA;rw[Nat.mod_mod],by omega⟩;have:=(h.at' b (Ih c (by decide:0<256)));obtain⟨_,_,d⟩:=this;have e:dA a x c=dA a x (c%256):=by unfold dA;rw[Nat.mod_mod]
 rw[e];exact d
structure MQ (n:Nat) (q:Lg) (sn:Li):Prop where
 ls:sn.length=n
 at':∀ x,x<n->sn.getD x false=decide (x∈q)
 nd:q.Nodup
 lt:∀ x∈q,x<n
theorem MQ.add{sn:Li}(h:MQ n q sn)(l:x<n)(g:¬ x∈q):MQ n (q++[x]) (sn.set x true):=by
 refine⟨by rw[GF];exact h.ls,λy c=>?_,Ip.2 ⟨h.nd,by simp,λa j b d=>by
  have d:b=x:=by simpa using d
  subst d;intro e;subst e;exact g j⟩,λy c=>?_⟩
 have m:=h.ls;rw[GB,Hm];by_cases e:x=y;subst e;rw[E' rfl,E' (by omega)];simp;rw[C' e,<-GB,h.at' y c];have k:¬ y=x:=λh=>e h.symm;simp[k];rcases GS.1 c with f|f;exact h.lt y f;have:y=x:=by simpa using f
 omega
theorem MQ.init(b:x<n):MQ n [x] ((List.replicate n false).set x true):=by have c:MQ n [] (List.replicate n false):=⟨Hi,λy a=>by rw[GB,IV,E' a];simp,JQ,λy a=>by cases a⟩;exact c.add b (by simp)
theorem MQ.le{sn:Li}(h:MQ n q sn):q.length<=n:=by have:=ct h.nd (m:=List.range n) λx a=>Hv.2 (h.lt x a);rw[Hg]at this;exact this
theorem sB:∀ (l acc:Lg) (x:Nat),ddA acc (l++[x])=if x∈ddA acc l then ddA acc l else ddA acc l++[x]
 | [],acc,x=>rfl
 |y::l,acc,x=>sB l _ x
def scT(δ :Nat->Nat->Nat)(s c:Nat):Lg:=(List.range c).map (δ s)
theorem yg(δ :Nat->Nat->Nat)(s c:Nat):scT δ s (c+1)=scT δ s c++[δ s c]:=by unfold scT;rw[IB,GM];rfl
theorem kg:∀ (l acc:Lg),∃r,ddA acc l=acc++r
 | [],acc=>⟨[],by rw[GA];rfl⟩
 |y::l,acc=>by show ∃r,ddA (if y∈acc then acc else acc++[y]) l=acc++r;by_cases h:y∈acc;rw[E' h];exact kg l acc;rw[C' h];obtain⟨r,a⟩:=kg l (acc++[y]);exact⟨[y]++r,by rw[a,Hw]⟩
theorem o8{sc:Nat->Lg}{s:Nat}(h:q[i]? =some s)(f:Nat):bfsK sc (f+1) q i=bfsK sc f (ddA q (sc s)) (i+1):=by simp only[bfsK,h]
theorem o9{sc:Nat->Lg}(h:q.length<=i):∀ f,bfsK sc f q i=q
 |0=>rfl
 |f+1=>by simp only[bfsK,Hs h]
theorem gA(l:Lg)(x:Nat):inF (l++[x])=inF l++[(x:Int)]:=GM
theorem lE:XMt.Ok:=⟨am,aE,ap,.nil⟩
def scQ(δ :Nat->Nat->Nat)(q0:Lg)(s b:Nat):Lg:=ddA q0 (scT δ s b)
theorem qQ(δ :Nat->Nat->Nat)(a:Lg)(s b:Nat):scQ δ a s (b+1)=if δ s b∈scQ δ a s b then scQ δ a s b else scQ δ a s b++[δ s b]:=by unfold scQ;rw[yg,sB]
theorem uI(δ :Nat->Nat->Nat)(a:Lg)(s b i:Nat)(h:i<a.length):(scQ δ a s b)[i]? =a[i]?:=by obtain⟨r,c⟩:=kg (scT δ s b) a;unfold scQ;rw[c,He h]
theorem uJ(δ :Nat->Nat->Nat)(a:Lg)(s:Nat):scQ δ a s 256=ddA a (scR δ s):=rfl
theorem y8(K:KV)(again2:KF){a:AU}(h:OkL a){d:Lg}{j:Li}(B:MQ a.2.2.length d j)(z:i<d.length)
 (w:∀ sn,MQ a.2.2.length (ddA d (scR (dA a) d[i])) sn->again2 (frMt sn.length (inF (ddA d (scR (dA a) d[i]))).length (i+1)) (hMt a.1 a.2.1 a.2.2 sn (inF (ddA d (scR (dA a) d[i]))))):
 LAtZ XMt 1 nMt ⟨.leaf,0⟩ (ak (subC pMt bMt)) pMtI (kMt2 K again2) (EX j.length (inF d).length i 0) (hMt a.1 a.2.1 a.2.2 j (inF d)):=by
 have P:=h.n1;have O:=B.le;refine LAtZ.stepF lE [] [] [] uE (by kernel_rfl) (λm G A=>∃ (b:Nat) (sn:Li),G=EX sn.length (inF (scQ (dA a) d d[i] b)).length i b/\A=hMt a.1 a.2.1 a.2.2 sn (inF (scQ (dA a) d d[i] b))/\MQ a.2.2.length (scQ (dA a) d d[i] b) sn/\b+m=256) ?_ (k:=256) ⟨0,j,rfl,rfl,B,rfl⟩;rintro m G A ⟨b,sn,rfl,rfl,r,S⟩;have p:=uI (dA a) d d[i] b i z;have o:=qQ (dA a) d d[i] b;have v:=uJ (dA a) d d[i];rw[Gq z]at p;have e:=B.lt _ (Gy z);generalize d[i]=s at*;generalize F:scQ (dA a) d s b=q at*;have N:=r.le;have Q:=r.ls;have R:=ao q;refine(Dy _ _ _ a.1 a.2.1 a.2.2 sn (inF q) i b).mpr (Sp.intro (λc=>?_) (λc=>?_));have c:=odt c;have U:b<256:=by omega
 obtain⟨E,H⟩:=Gw.1 p;have u:i<(inF q).length:=by omega
 have e1:aa (inV (inF q)) (i:Int)=(s:Nat):=by rw[aq u,bF E,H]
 have M:nth (inV (inF q)) i=some (Vi (s:Nat)):=by rw[aP u,bF E,H]
 obtain⟨D,C,y⟩:=h.at' e U;have e2:ae (roV a.2.2) ((Int.toNat ((s:Nat):Int):Nat):Int)=inV a.2.2[s]:=by rw[Gs];exact bM e
 have L:nth (roV a.2.2) s=some (Vd 1 (inV a.2.2[s])):=cK e;have Z:aa (inV a.2.2[s]) (b:Int)=(dA a s b:Nat):=by rw[aq D,C]
 have J:nth (inV a.2.2[s]) b=some (Vi (dA a s b:Nat)):=by rw[aP D,C]
 have t:dA a s b<sn.length:=by omega
 have Y:aG (blV sn) ((Int.toNat ((dA a s b:Nat):Int)+0:Nat):Int)=decide (dA a s b∈q):=by rw[Gs,GP,bv t,<-r.at' _ y,gD t]
 have I:nth (blV sn) (dA a s b)=some (.bool (decide (dA a s b∈q))):=by rw[di t,<-r.at' _ y,gD t]
 have l1:(inV a.2.2[s]).length=a.2.2[s].length:=ah _;have l2:=aL a.2.2;have l3:=bc sn;rw[e1,e2,Z,Y,l1,l2,l3];simp only[Gs,GP];refine⟨⟨by omega,by omega⟩,M,⟨by omega,by omega⟩,L,⟨by omega,by omega⟩,J,⟨by omega,by omega⟩,I,Sp.intro (λg=>?_) (λg=>?_)⟩;have g:¬ dA a s b∈q:=by simpa using g
 rw[C' g]at o;have X:inV (inF q)++[Vi ((dA a s b:Nat):Int)]=inV (inF (q++[dA a s b])):=by rw[gA];exact(GM (f:=Value.int .i64) (l₁ :=inF q) (l₂ :=[((dA a s b:Nat):Int)])).symm
 have V:(blV sn).set (dA a s b) (.bool true)=blV (sn.set (dA a s b) true):=by unfold blV;rw[Im]
 rw[X,V,aA (x:=(b:Int)+1) (by omega) (by omega)];refine⟨⟨by omega,by omega⟩,t,⟨rfl,(ah _).symm,by omega,by omega⟩,.dat (aN _),.dat (aK _),aC _,ab _,m-1,by omega,b+1,sn.set (dA a s b) true,?_,?_,?_,by omega⟩;rw[o,gA,Gr,GF];rfl;rw[o];rfl;rw[o];exact r.add y g;have g:dA a s b∈q:=by simpa using g
 rw[E' g]at o;rw[aA (x:=(b:Int)+1) (by omega) (by omega)];refine⟨.dat (aN _),.dat (aK _),aC _,ab _,m-1,by omega,b+1,sn,?_,?_,?_,by omega⟩;rw[o];rfl;rw[o];rfl;rw[o];exact r;have c:=odf c;obtain rfl:b=256:=by omega
 rw[v]at F;rw[F]at w;rw[aA (x:=(i:Int)+1) (by omega) (by omega)];refine⟨.dat (aN _),.dat (aK _),aC _,ab _,?_⟩;exact w sn r
theorem xB(n:Nat)(b:Bool):List.replicate n (Value.bool b)=blV (List.replicate n b):=by unfold blV;rw[I2]
theorem xA(l:Li)(i:Nat)(b:Bool):(blV l).set i (.bool b)=blV (l.set i b):=by unfold blV;rw[Im]
def hMtE(q:Le):AH:=⟨(Nd Lf (some (groI q)) Lf),1⟩
theorem end_mt(Q:Value->AH->Prop)(s:Int)(acc:Li)(nx:La)(sn:Li)(q:Le):endF env ⟨.leaf,0⟩ [] [] [] Q (groS 2 q.length) (hMt s acc nx sn q)=(HF (.agg ⟨inV q⟩)/\Q (groS 0 q.length) (hMtE q)):=by kernel_rfl
theorem C7{a:AU}(h:OkL a):WalkF env f42 [auV a] ⟨.leaf,0⟩ (groS 0 (inF (rfL (dA a) a.1.toNat)).length) (hMtE (inF (rfL (dA a) a.1.toNat))):=by
 have E:=h.n0;have D:=h.n1;have p:=h.st;have I:=RAL.of h;have o:=λ(K:KV) (H:KF) {v:Lg}{sn0:Li}(h0:MQ a.2.2.length v sn0) {i:Nat}(w:i<v.length)=>y8 K H h h0 w;obtain⟨s,b,e⟩:=a;obtain⟨x,rfl⟩:∃ x:Nat,s=x:=⟨s.toNat,by dsimp only at p;omega⟩;dsimp only at*;have z:x<e.length:=by omega
 refine aJ lE (d:=1) (ns:=[]) (zs:=[]) (ws:=[]) ((jMt_nf _ (x:Nat) b e).mpr ?_);have l2:=aL e;rw[l2];simp only[Gs,GP];rw[xB,xA,bc,Hi];refine⟨⟨by omega,by omega,by omega,by omega⟩,⟨by omega,by omega⟩,by omega,.dat (aN _),.dat (aK _),aC _,ab [_],?_⟩;refine LAtZ.stepF lE nsMt [] [] slMt (by kernel_rfl) (λm G A=>∃ (i:Nat) (q:Lg) (f:Li),G=frMt f.length (inF q).length i/\A=hMt (x:Nat) b e f (inF q)/\MQ e.length q f/\bfsK (scR (dA ((x:Nat),b,e))) (90001-i) q i=rfL (dA ((x:Nat),b,e)) x/\i<=q.length/\i+m=90001) ?_ (k:=90001) ⟨0,[x],(List.replicate e.length false).set x true,by rw[GF,Hi];rfl,rfl,MQ.init z,rfl,by simp,rfl⟩;rintro m G A ⟨i,q,f,rfl,rfl,y,t,w,F⟩;generalize rfL (dA ((x:Nat),b,e)) x=L at*;have C:=y.le;have g:=ao q;refine(Dx _ _ (x:Nat) b e f (inF q) i).mpr (Sp.intro (λc=>?_) (λc=>?_));have c:=odt c;rw[g]at c;have j:i<q.length:=by omega
 refine⟨.dat (aN _),.dat (aK _),aC _,ab _,o _ _ y j λl u=>?_⟩;obtain⟨r,B⟩:=kg (scR (dA ((x:Nat),b,e)) q[i]) q;refine⟨m-1,by omega,i+1,ddA q (scR (dA ((x:Nat),b,e)) q[i]),l,rfl,rfl,u,?_,by rw[B,Gr];omega,by omega⟩;rw[<-t,show 90001-i=(90001-(i+1))+1 by omega];exact(o8 (Gq j) _).symm;have c:=odf c;rw[g]at c;rw[o9 (by omega)]at t;rw[<-t];refine(end_mt _ (x:Nat) b e f (inF q)).mpr ?_;exact⟨ab _,rfl,rfl⟩
def spMt(P:Value->Prop)(q:Le):Lh->List AObj->Option (Ll×Value×List AObj)
 | [u],[]=>some (some (P u),groS 0 q.length,[groI q])
 |_,_=>none
theorem Ey(q:Le):aW [groI q]=hMtE q:=by kernel_rfl
theorem mt_tab{a:AU}(h:OkL a):∀ args A p v A',frmR noAr (spMt (λu=>u=auV a) (inF (rfL (dA a) a.1.toNat))) args A=some (p,v,A')->PH p->CallAt env 42 args A v A':=be am (fn:=f42) rfl λargs d p v c b e=>by unfold spMt at b;split at b;rename_i u;cases b;obtain rfl:u=auV a:=e;have:=C7 h;rw[<-Ey]at this;exact this;cases b
end
end Go.T9
namespace Go.T9
open Go Go.AM Go.MK Go.Proofs.Tryz
noncomputable section
def hM0(acc:Li)(nx:La):AH:=⟨(Nd (Nd Lf (some (groR nx)) Lf) (some (groB acc)) Lf),2⟩
def frMh(n m i:Nat):T Value:=(Nd (Nd (Nd Lf (some (groS 3 n)) Lf) (some (.pointer (some ⟨2,0,none⟩))) (Nd Lf (some (.int .i64 i)) Lf)) none (Nd (Nd Lf (some (groS 4 m)) Lf) none Lf))
def EY(n m i b:Nat):T Value:=(Nd (Nd (Nd Lf (some (groS 3 n)) Lf) (some (.pointer (some ⟨2,0,none⟩))) (Nd Lf (some (.int .i64 i)) Lf)) none (Nd (Nd Lf (some (groS 4 m)) Lf) none (Nd Lf (some (.int .i64 b)) Lf)))
def hMh(s:Int)(acc:Li)(nx:La)(sn:Li)(q:Le):AH:=⟨(Nd (Nd (Nd Lf (some (groB sn)) Lf) (some (groR nx)) Lf) (some (groB acc)) (Nd (Nd Lf (some (groI q)) Lf) (some (.cells [.int .i64 s,groS 0 acc.length,groS 1 nx.length] 25)) Lf)),5⟩
def jMh(K:KV)(s:Int)(acc:Li)(nx:La):Prop:=bh XMt 1 f42 [.agg ⟨[.int .i64 s,groS 0 acc.length,groS 1 nx.length]⟩] (hM0 acc nx) K
def jMhL(K:KV)(again:KF)(s:Int)(acc:Li)(nx:La)(sn:Li)(q:Le)(i:Nat):Prop:=aI XMt 1 nMt (hM0 acc nx) bMt pMt (kY K) nsMt [] [] slMt again (frMh sn.length q.length i) (hMh s acc nx sn q)
noncomputable def kMh2(acc:Li)(nx:La)(K:KV)(again2:KF):KX:=stepF XMt 1 nMt (hM0 acc nx) bMt pMt (kY K) nsMt [] [] slMt again2
def jMhI(K:KV)(again2 again:KF)(s:Int)(acc:Li)(nx:La)(sn:Li)(q:Le)(i b:Nat):Prop:=aI XMt 1 nMt (hM0 acc nx) (ak (subC pMt bMt)) pMtI (kMh2 acc nx K again2) [] [] [] uE again (EY sn.length q.length i b) (hMh s acc nx sn q)
end
end Go.T9
namespace Go.T9
open Go Go.AM Go.MK Go.HK Go.Proofs.Tryz
noncomputable section
theorem Mf(K:KV)(s:Int)(acc:Li)(nx:La):jMh K s acc nx=((0<=B_ nx.length/\B_ nx.length<=B_ nx.length/\B_ nx.length<=281474976710656/\1*List.length nx<=281474976710656)/\(0<=s/\s<B_ nx.length)/\Int.toNat (B_ (Int.toNat s+0))<List.length (List.replicate nx.length Kw)/\J0 (blV acc)/\J0 (roV nx)/\J0 (List.set (List.replicate nx.length Kw) (z_ (B_ (Int.toNat s+0))) Km)/\J0 [Vi s]/\LAtZ XMt 1 f42.ntmps (hM0 acc nx) (au f42) [1,1,1,1,0,1,0] (finK (SX.E XMt) f42.results.toList K) (No (Ns (Kj 3 0 nx.length) (c_ 2 0) (M' 0)) (F_ (U' 4 0 1 18446744073709551620))) (Q_ (Kd (KG (List.set (List.replicate nx.length Kw) (z_ (B_ (Int.toNat s+0))) Km) 4) (O_ nx)) (Z_ acc) (Kd (KG [Vi s] 3) (n_ [Vi s,Kl acc.length,g_ 1 0 nx.length] 25)) 5)):=by kernel_rfl
theorem jMh_nf:type_of%(by have h:=@Mf;revert h;delta b_ c_ f_ g_ k_ n_ z_ B_ F_ O_ Q_ Z_ M' U' J0 Kd Kj Kl Km Kw KG;exact id):=@Mf
theorem Mg(K:KV)(again:KF)(s:Int)(acc:Li)(nx:La)(sn:Li)(q:Le)(i:Nat):jMhL K again s acc nx sn q i=(Sp (decide ((i:Int)<B_ q.length)) (J0 (blV acc)/\J0 (roV nx)/\J0 (blV sn)/\I_ q/\LAtZ XMt 1 nMt (hM0 acc nx) (ak (subC pMt bMt)) [1,0,0,1,0] (stepF XMt 1 nMt (hM0 acc nx) bMt pMt (kY K) nsMt [] [] slMt again) (No (Ns (Kj 3 0 sn.length) (c_ 2 0) (M' i)) (No (Kj 4 0 q.length) (M' 0))) (Q_ (Kd (Sg (Z_ sn)) (O_ nx)) (Z_ acc) (Kd (J3 q) (n_ [Vi s,Kl acc.length,g_ 1 0 nx.length] 25)) 5)) (K (g_ 4 0 q.length) (Q_ (Kd (Sg (Z_ sn)) (O_ nx)) (Z_ acc) (Kd (J3 q) (n_ [Vi s,Kl acc.length,g_ 1 0 nx.length] 25)) 5))):=by kernel_rfl
theorem Dz:type_of%(by have h:=@Mg;revert h;delta b_ c_ e_ f_ g_ k_ n_ B_ I_ O_ Q_ Z_ M' J0 J3 Kd Kj Kl;exact id):=@Mg
abbrev Kf:=λa b c=>ae (roV a) (m_ (inV b) c)
theorem Mh(K:KV)(again2:KF)(again:KF)(s:Int)(acc:Li)(nx:La)(sn:Li)(q:Le)(i b:Nat):jMhI K again2 again s acc nx sn q i b=(Sp (decide ((b:Int)<256)) ((0<=(i:Int)/\(i:Int)<B_ q.length)/\nth (inV q) i=some (Vi (P_ q i))/\(0<=aa (inV q) i/\aa (inV q) (i:Int)<B_ nx.length)/\nth (roV nx) (z_ (m_ (inV q) i))=some (Vd 1 (Kf nx q i))/\(0<=(b:Int)/\(b:Int)<j_ (Kf nx q i))/\nth (Kf nx q i) b=some (Vi (aa (Kf nx q i) b))/\(0<=aa (Kf nx q i) b/\aa (Kf nx q i) (b:Int)<B_ sn.length)/\nth (blV sn) (z_ (m_ (Kf nx q i) b))=some (KN (blV sn) (m_ (Kf nx q i) b))/\Sp (! aG (blV sn) (m_ (Kf nx q i) b)) ((0<=aa (Kf nx q i) b/\aa (Kf nx q i) (b:Int)<B_ sn.length)/\Int.toNat (m_ (Kf nx q i) b)<List.length (blV sn)/\(List.all [Vi (aa (Kf nx q i) b)] cellv=true/\List.length q+0=List.length (inV q)/\List.length q+(1:Nat)<=(70368744177664:Nat)/\(List.length q+1)*(8:Nat)<=(140737488355328:Nat))/\J0 (blV acc)/\J0 (roV nx)/\J0 (List.set (blV sn) (z_ (m_ (Kf nx q i) b)) Km)/\J0 (inV q++[Vi (aa (Kf nx q i) b)])/\again (No (Ns (Kj 3 0 sn.length) (c_ 2 0) (M' i)) (No (Kj 4 0 (List.length q+1)) (v_ ((b:Int)+1)))) (Q_ (Kd (KG (List.set (blV sn) (z_ (m_ (Kf nx q i) b)) Km) 4) (O_ nx)) (Z_ acc) (Kd (KG (inV q++[Vi (aa (Kf nx q i) b)]) 3) (n_ [Vi s,Kl acc.length,g_ 1 0 nx.length] 25)) 5)) (J0 (blV acc)/\J0 (roV nx)/\J0 (blV sn)/\I_ q/\again (No (Ns (Kj 3 0 sn.length) (c_ 2 0) (M' i)) (No (Kj 4 0 q.length) (v_ ((b:Int)+1)))) (Q_ (Kd (Sg (Z_ sn)) (O_ nx)) (Z_ acc) (Kd (J3 q) (n_ [Vi s,Kl acc.length,g_ 1 0 nx.length] 25)) 5))) (J0 (blV acc)/\J0 (roV nx)/\J0 (blV sn)/\I_ q/\again2 (No (Ns (Kj 3 0 sn.length) (c_ 2 0) (v_ ((i:Int)+1))) (F_ (g_ 4 0 q.length))) (Q_ (Kd (Sg (Z_ sn)) (O_ nx)) (Z_ acc) (Kd (J3 q) (n_ [Vi s,Kl acc.length,g_ 1 0 nx.length] 25)) 5))):=by kernel_rfl
theorem DA:type_of%(by have h:=@Mh;revert h;delta b_ c_ e_ f_ g_ j_ k_ m_ n_ v_ z_ B_ F_ I_ O_ P_ Q_ Z_ M' J0 J3 Kd Kf Kj Kl Km KG KN;exact id):=@Mh
theorem za(K:KV)(again2:KF){a:AU}(h:OkL a){d:Lg}{j:Li}(z:MQ a.2.2.length d j){i:Nat}(y:i<d.length)
 (v:∀ sn,MQ a.2.2.length (ddA d (scR (dA a) d[i])) sn->again2 (frMh sn.length (inF (ddA d (scR (dA a) d[i]))).length (i+1)) (hMh a.1 a.2.1 a.2.2 sn (inF (ddA d (scR (dA a) d[i]))))):
 LAtZ XMt 1 nMt (hM0 a.2.1 a.2.2) (ak (subC pMt bMt)) pMtI (kMh2 a.2.1 a.2.2 K again2) (EY j.length (inF d).length i 0) (hMh a.1 a.2.1 a.2.2 j (inF d)):=by
 have O:=h.n1;have N:=z.le;refine LAtZ.stepF lE [] [] [] uE (by kernel_rfl) (λm G A=>∃ (b:Nat) (sn:Li),G=EY sn.length (inF (scQ (dA a) d d[i] b)).length i b/\A=hMh a.1 a.2.1 a.2.2 sn (inF (scQ (dA a) d d[i] b))/\MQ a.2.2.length (scQ (dA a) d d[i] b) sn/\b+m=256) ?_ (k:=256) ⟨0,j,rfl,rfl,z,rfl⟩;rintro m G A ⟨b,sn,rfl,rfl,p,R⟩;have o:=uI (dA a) d d[i] b i y;have n:=qQ (dA a) d d[i] b;have u:=uJ (dA a) d d[i];rw[Gq y]at o;have e:=z.lt _ (Gy y);generalize d[i]=s at*;generalize E:scQ (dA a) d s b=q at*;have M:=p.le;have P:=p.ls;have Q:=ao q;refine(DA _ _ _ a.1 a.2.1 a.2.2 sn (inF q) i b).mpr (Sp.intro (λc=>?_) (λc=>?_));have c:=odt c;have S:b<256:=by omega
 obtain⟨D,F⟩:=Gw.1 o;have t:i<(inF q).length:=by omega
 have e1:aa (inV (inF q)) (i:Int)=(s:Nat):=by rw[aq t,bF D,F]
 have L:nth (inV (inF q)) i=some (Vi (s:Nat)):=by rw[aP t,bF D,F]
 obtain⟨C,B,w⟩:=h.at' e S;have Z:ae (roV a.2.2) ((Int.toNat ((s:Nat):Int)+0:Nat):Int)=inV a.2.2[s]:=bM e;have J:nth (roV a.2.2) s=some (Vd 1 (inV a.2.2[s])):=cK e;have Y:aa (inV a.2.2[s]) (b:Int)=(dA a s b:Nat):=by rw[aq C,B]
 have I:nth (inV a.2.2[s]) b=some (Vi (dA a s b:Nat)):=by rw[aP C,B]
 have r:dA a s b<sn.length:=by omega
 have X:aG (blV sn) ((Int.toNat ((dA a s b:Nat):Int)+0:Nat):Int)=decide (dA a s b∈q):=by rw[Gs,GP,bv r,<-p.at' _ w,gD r]
 have H:nth (blV sn) (dA a s b)=some (.bool (decide (dA a s b∈q))):=by rw[di r,<-p.at' _ w,gD r]
 have l1:(inV a.2.2[s]).length=a.2.2[s].length:=ah _;have l3:=bc sn;rw[e1,Z,Y,X,l1,l3];simp only[Gs,GP];refine⟨⟨by omega,by omega⟩,L,⟨by omega,by omega⟩,J,⟨by omega,by omega⟩,I,⟨by omega,by omega⟩,H,Sp.intro (λg=>?_) (λg=>?_)⟩;have g:¬ dA a s b∈q:=by simpa using g
 rw[C' g]at n;have V:inV (inF q)++[Vi ((dA a s b:Nat):Int)]=inV (inF (q++[dA a s b])):=by rw[gA];exact(GM (f:=Value.int .i64) (l₁ :=inF q) (l₂ :=[((dA a s b:Nat):Int)])).symm
 have U:(blV sn).set (dA a s b) (.bool true)=blV (sn.set (dA a s b) true):=by unfold blV;rw[Im]
 rw[V,U,aA (x:=(b:Int)+1) (by omega) (by omega)];refine⟨⟨by omega,by omega⟩,r,⟨rfl,(ah _).symm,by omega,by omega⟩,aC _,aH _,aC _,ab _,m-1,by omega,b+1,sn.set (dA a s b) true,?_,?_,?_,by omega⟩;rw[n,gA,Gr,GF];rfl;rw[n];rfl;rw[n];exact p.add w g;have g:dA a s b∈q:=by simpa using g
 rw[E' g]at n;rw[aA (x:=(b:Int)+1) (by omega) (by omega)];refine⟨aC _,aH _,aC _,ab _,m-1,by omega,b+1,sn,?_,?_,?_,by omega⟩;rw[n];rfl;rw[n];rfl;rw[n];exact p;have c:=odf c;obtain rfl:b=256:=by omega
 rw[u]at E;rw[E]at v;rw[aA (x:=(i:Int)+1) (by omega) (by omega)];refine⟨aC _,aH _,aC _,ab _,?_⟩;exact v sn p
def hMhE(acc:Li)(nx:La)(q:Le):AH:=⟨(Nd (Nd Lf (some (groR nx)) Lf) (some (groB acc)) (Nd Lf (some (groI q)) Lf)),3⟩
theorem end_mh(Q:Value->AH->Prop)(s:Int)(acc:Li)(nx:La)(sn:Li)(q:Le):endF env (hM0 acc nx) [] [] [] Q (groS 4 q.length) (hMh s acc nx sn q)=(HF (.agg ⟨blV acc⟩)/\HF (.agg ⟨roV nx⟩)/\HF (.agg ⟨inV q⟩)/\Q (groS 2 q.length) (hMhE acc nx q)):=by kernel_rfl
theorem C8{a:AU}(h:OkL a):WalkF env f42 [.agg ⟨[.int .i64 a.1,groS 0 a.2.1.length,groS 1 a.2.2.length]⟩] (hM0 a.2.1 a.2.2) (groS 2 (inF (rfL (dA a) a.1.toNat)).length) (hMhE a.2.1 a.2.2 (inF (rfL (dA a) a.1.toNat))):=by
 have D:=h.n0;have C:=h.n1;have o:=h.st;have H:=RAL.of h;have n:=λ(K:KV) (F:KF) {u:Lg}{sn0:Li}(h0:MQ a.2.2.length u sn0) {i:Nat}(v:i<u.length)=>za K F h h0 v;obtain⟨s,b,e⟩:=a;obtain⟨x,rfl⟩:∃ x:Nat,s=x:=⟨s.toNat,by dsimp only at o;omega⟩;dsimp only at*;have y:x<e.length:=by omega
 refine aJ lE (d:=1) (ns:=[]) (zs:=[]) (ws:=[]) ((jMh_nf _ (x:Nat) b e).mpr ?_);simp only[Gs,GP];rw[xB,xA,bc,Hi];refine⟨⟨by omega,by omega,by omega,by omega⟩,⟨by omega,by omega⟩,by omega,aC _,aH _,aC _,ab [_],?_⟩;refine LAtZ.stepF lE nsMt [] [] slMt (by kernel_rfl) (λm G A=>∃ (i:Nat) (q:Lg) (f:Li),G=frMh f.length (inF q).length i/\A=hMh (x:Nat) b e f (inF q)/\MQ e.length q f/\bfsK (scR (dA ((x:Nat),b,e))) (90001-i) q i=rfL (dA ((x:Nat),b,e)) x/\i<=q.length/\i+m=90001) ?_ (k:=90001) ⟨0,[x],(List.replicate e.length false).set x true,by rw[GF,Hi];rfl,rfl,MQ.init y,rfl,by simp,rfl⟩;rintro m G A ⟨i,q,f,rfl,rfl,w,p,v,E⟩;generalize rfL (dA ((x:Nat),b,e)) x=L at*;have B:=w.le;have g:=ao q;refine(Dz _ _ (x:Nat) b e f (inF q) i).mpr (Sp.intro (λc=>?_) (λc=>?_));have c:=odt c;rw[g]at c;have j:i<q.length:=by omega
 refine⟨aC _,aH _,aC _,ab _,n _ _ w j λl t=>?_⟩;obtain⟨r,z⟩:=kg (scR (dA ((x:Nat),b,e)) q[i]) q;refine⟨m-1,by omega,i+1,ddA q (scR (dA ((x:Nat),b,e)) q[i]),l,rfl,rfl,t,?_,by rw[z,Gr];omega,by omega⟩;rw[<-p,show 90001-i=(90001-(i+1))+1 by omega];exact(o8 (Gq j) _).symm;have c:=odf c;rw[g]at c;rw[o9 (by omega)]at p;rw[<-p];refine(end_mh _ (x:Nat) b e f (inF q)).mpr ?_;exact⟨aC _,aH _,ab _,rfl,rfl⟩
def spMh(P:Int->Lh->Lh->Prop)(q:Le):Lh->List AObj->Option (Ll×Value×List AObj)
 | [.agg ⟨[.int .i64 s,.slice (some ⟨B1,o1,none⟩) n1 k1,.slice (some ⟨B2,o2,none⟩) n2 k2]⟩],[.gro l1 t1 e1,.gro l2 t2 e2]=>
   bif ((Nat.beq B1 0&&Nat.beq o1 0)&&(Nat.beq B2 1&&Nat.beq o2 0))&&((Nat.beq k1 (unk+3+1)&&Nat.beq k2 (unk+3+1))&&(Nat.beq e1 4&&Nat.beq e2 37))then
    some (some ((t1=[]/\t2=[])/\(n1=l1.length/\n2=l2.length)/\P s l1 l2),groS 2 q.length,[.gro l1 [] e1,.gro l2 [] e2,groI q])else none
 |_,_=>none
theorem we(acc:Li)(nx:La):aW [groB acc,groR nx]=hM0 acc nx:=by kernel_rfl
theorem Ez(acc:Li)(nx:La)(q:Le):aW [groB acc,groR nx,groI q]=hMhE acc nx q:=by kernel_rfl
theorem mh_tab{a:AU}(h:OkL a):∀ args A p v A',frmR noAr (spMh (λs l1 l2=>s=a.1/\l1=blV a.2.1/\l2=roV a.2.2) (inF (rfL (dA a) a.1.toNat))) args A=some (p,v,A')->PH p->CallAt env 42 args A v A':=be am (fn:=f42) rfl λargs d p v c b k=>by unfold spMh at b;split at b;rename_i s u m j o t l i n l1 g r l2 f q;obtain⟨e,b⟩:=bw b;simp only[Gx]at b;obtain⟨rfl,rfl,rfl⟩:=b;simp only[f',GG]at e;obtain⟨⟨⟨rfl,rfl⟩,rfl,rfl⟩,⟨rfl,rfl⟩,rfl,rfl⟩:=e;obtain⟨⟨rfl,rfl⟩,⟨rfl,rfl⟩,rfl,rfl,rfl⟩:(g=[]/\f=[])/\(j=l1.length/\i=l2.length)/\(s=a.1/\l1=blV a.2.1/\l2=roV a.2.2):=k;rw[bc,aL];have:=C8 h;rw[<-we,<-Ez]at this;exact this;cases b
noncomputable def nFb:Nat:=Func.ntmps f92
noncomputable def bFb:Code:=au f92
def elFb:El:={El.of (λ_ _ els i=>some (.int .u8 (aa els i)))with app:=true,gm:=λ_=>true}
def slFb:Lg:=[0,1,3,4,10,11,12,13,17]
def pFb:Lg:=[1,1,1,1,1,0,1,1,1,0,0]
def XFb:SX:=⟨env,[],elFb,λ_=>.autoN [] [] [] slFb⟩
def rJ(K:KV):KX:=finK XFb.E (f92.results).toList K
def hU(l:LB):AH:=⟨(Nd Lf (some (.gro (u8v l) [] 5)) Lf),1⟩
def hFb(l:LB)(a b c d:Int):AH:=⟨(Nd (Nd Lf (some (.cells (List.replicate 61 (.int .u8 0)++[.int .u8 a,.int .u8 b,.int .u8 c,.int .u8 d]) 162)) Lf) (some (.gro (u8v l) [] 5)) Lf),2⟩
def frFb(n:Nat)(x:Int)(i:Int):T Value:=(Nd (Nd (Nd Lf (some (.bool false)) (Nd Lf (some (.string (aw []))) Lf)) (some (.int .u64 x)) (Nd (Nd (Nd Lf (some (.int .u64 36)) Lf) none Lf) none (Nd Lf (some (.int .i64 i)) Lf))) (some (groS 0 n)) (Nd (Nd Lf (some (.bool true)) (Nd Lf (some (.pointer (some ⟨1,0,none⟩))) Lf)) none (Nd (Nd Lf (some (nilS)) Lf) none Lf)))
def jFb(K:KV)(l:LB)(x:Int):Prop:=bh XFb 2 f92 [groS 0 l.length,.int .u64 x,.int .i64 36,.bool false,.bool true] (hU l) K
def jFb0(K:KV)(again:KF)(l:LB)(x a b c d:Int):Prop:=aI XFb 2 nFb (hU l) bFb pFb (rJ K) [] [] [] slFb again (frFb l.length x 65) (hFb l a b c d)
def jFb1(K:KV)(again:KF)(l:LB)(x a b c d:Int):Prop:=aI XFb 2 nFb (hU l) bFb pFb (rJ K) [] [] [] slFb again (frFb l.length x 64) (hFb l a b c d)
def jFb2(K:KV)(again:KF)(l:LB)(x a b c d:Int):Prop:=aI XFb 2 nFb (hU l) bFb pFb (rJ K) [] [] [] slFb again (frFb l.length x 63) (hFb l a b c d)
def jFb3(K:KV)(again:KF)(l:LB)(x a b c d:Int):Prop:=aI XFb 2 nFb (hU l) bFb pFb (rJ K) [] [] [] slFb again (frFb l.length x 62) (hFb l a b c d)
def tb36:ByteArray:=⟨⟨[48,49,50,51,52,53,54,55,56,57,97,98,99,100,101,102,103,104,105,106,107,108,109,110,111,112,113,114,115,116,117,118,119,120,121,122]⟩⟩
def z61(r:Lh):Lh:=List.replicate 61 (Value.int .u8 0)++r
abbrev U_{E:Type}:=λa b c d (e:List E) f=>Ns (Ns (Ns Lf (Value.bool false) (Sg (Vs (ByteArray.mk ⟨[]⟩)))) (Value.int .u64 a) (No (F_ (Value.int .u64 b)) (Sg (Vi c)))) (b_ (some ⟨d,d,none⟩) (i_ e)) (No (Ns Lf (Value.bool true) (Sg (c_ f d))) (No (Sg A_) Lf))
theorem Mi(K:KV)(l:LB)(x:Int):jFb K l x=(J0 (u8v l)/\LAtZ XFb 2 f92.ntmps (hU l) (au f92) [1,1,1,1,1,0,1,1,1,0,0] (finK (SX.E XFb) f92.results.toList K) (U_ x 36 65 0 l 1) (AH.mk (Kd (Ks (z61 [w_ 0,w_ 0,w_ 0,w_ 0]) 162) (k_ (u8v l) 5)) 2)):=by kernel_rfl
theorem jFb_nf:type_of%(by have h:=@Mi;revert h;delta b_ c_ f_ i_ k_ n_ w_ A_ F_ U_ J0 Kd Ks;exact id):=@Mi
abbrev Kt:=λa=>IntKind.wrap .u64 a
theorem Mj(K:KV)(again:KF)(l:LB)(x a b c d:Int):jFb0 K again l x a b c d=(Sp (decide (36<=x)) (NZ 36/\(0<=IntKind.wrap .u64 (x-IntKind.wrap .u64 (IntKind.wrap .u64 (Int.tdiv x 36)*36))/\IntKind.wrap .u64 (x-IntKind.wrap .u64 (IntKind.wrap .u64 (Int.tdiv x 36)*36))<36)/\((0:Int)<=(64:Int)/\(64:Int)<(65:Int))/\J0 (u8v l)/\again (U_ (Kt (Int.tdiv x 36)) 36 64 0 l 1) (AH.mk (Kd (Ks (z61 [w_ a,w_ b,w_ c,w_ (az tb36 (Kt (x-IntKind.wrap .u64 (IntKind.wrap .u64 (Int.tdiv x 36)*36))))]) 162) (k_ (u8v l) 5)) 2)) ((0<=x/\x<36)/\((0:Int)<=(64:Int)/\(64:Int)<(65:Int))/\(List.all [w_ (az tb36 x)] cellv=true/\List.length l+0=List.length (u8v l)/\List.length l+(1:Nat)<=(70368744177664:Nat)/\(List.length l+1)*(1:Nat)<=(140737488355328:Nat))/\K (Ki [g_ 2 0 (List.length l+1),Vs (ByteArray.mk ⟨[]⟩)]) (AH.mk (Ns (Ks (z61 [w_ a,w_ b,w_ c,w_ (az tb36 x)]) 162) AObj.dead (Sg (AObj.gro (u8v l) [w_ (az tb36 x)] 5))) 3))):=by kernel_rfl
theorem DP:type_of%(by have h:=@Mj;revert h;delta b_ c_ f_ g_ i_ k_ n_ w_ A_ F_ U_ J0 Kd Ki Ks Kt;exact id):=@Mj
theorem Mk(K:KV)(again:KF)(l:LB)(x a b c d:Int):jFb1 K again l x a b c d=(Sp (decide (36<=x)) (NZ 36/\(0<=IntKind.wrap .u64 (x-IntKind.wrap .u64 (IntKind.wrap .u64 (Int.tdiv x 36)*36))/\IntKind.wrap .u64 (x-IntKind.wrap .u64 (IntKind.wrap .u64 (Int.tdiv x 36)*36))<36)/\((0:Int)<=(63:Int)/\(63:Int)<(65:Int))/\J0 (u8v l)/\again (U_ (Kt (Int.tdiv x 36)) 36 63 0 l 1) (AH.mk (Kd (Ks (z61 [w_ a,w_ b,w_ (az tb36 (Kt (x-IntKind.wrap .u64 (IntKind.wrap .u64 (Int.tdiv x 36)*36)))),w_ d]) 162) (k_ (u8v l) 5)) 2)) ((0<=x/\x<36)/\((0:Int)<=(63:Int)/\(63:Int)<(65:Int))/\(List.all [w_ (az tb36 x),w_ d] cellv=true/\List.length l+0=List.length (u8v l)/\List.length l+(2:Nat)<=(70368744177664:Nat)/\(List.length l+2)*(1:Nat)<=(140737488355328:Nat))/\K (Ki [g_ 2 0 (List.length l+2),Vs (ByteArray.mk ⟨[]⟩)]) (AH.mk (Ns (Ks (z61 [w_ a,w_ b,w_ (az tb36 x),w_ d]) 162) AObj.dead (Sg (AObj.gro (u8v l) [w_ (az tb36 x),w_ d] 5))) 3))):=by kernel_rfl
theorem DO:type_of%(by have h:=@Mk;revert h;delta b_ c_ f_ g_ i_ k_ n_ w_ A_ F_ U_ J0 Kd Ki Ks Kt;exact id):=@Mk
theorem Ml(K:KV)(again:KF)(l:LB)(x a b c d:Int):jFb2 K again l x a b c d=(Sp (decide (36<=x)) (NZ 36/\(0<=IntKind.wrap .u64 (x-IntKind.wrap .u64 (IntKind.wrap .u64 (Int.tdiv x 36)*36))/\IntKind.wrap .u64 (x-IntKind.wrap .u64 (IntKind.wrap .u64 (Int.tdiv x 36)*36))<36)/\((0:Int)<=(62:Int)/\(62:Int)<(65:Int))/\J0 (u8v l)/\again (U_ (Kt (Int.tdiv x 36)) 36 62 0 l 1) (AH.mk (Kd (Ks (z61 [w_ a,w_ (az tb36 (Kt (x-IntKind.wrap .u64 (IntKind.wrap .u64 (Int.tdiv x 36)*36)))),w_ c,w_ d]) 162) (k_ (u8v l) 5)) 2)) ((0<=x/\x<36)/\((0:Int)<=(62:Int)/\(62:Int)<(65:Int))/\(List.all [w_ (az tb36 x),w_ c,w_ d] cellv=true/\List.length l+0=List.length (u8v l)/\List.length l+(3:Nat)<=(70368744177664:Nat)/\(List.length l+3)*(1:Nat)<=(140737488355328:Nat))/\K (Ki [g_ 2 0 (List.length l+3),Vs (ByteArray.mk ⟨[]⟩)]) (AH.mk (Ns (Ks (z61 [w_ a,w_ (az tb36 x),w_ c,w_ d]) 162) AObj.dead (Sg (AObj.gro (u8v l) [w_ (az tb36 x),w_ c,w_ d] 5))) 3))):=by kernel_rfl
theorem DN:type_of%(by have h:=@Ml;revert h;delta b_ c_ f_ g_ i_ k_ n_ w_ A_ F_ U_ J0 Kd Ki Ks Kt;exact id):=@Ml
theorem Mm(K:KV)(again:KF)(l:LB)(x a b c d:Int):jFb3 K again l x a b c d=(Sp (decide (36<=x)) (NZ 36/\(0<=IntKind.wrap .u64 (x-IntKind.wrap .u64 (IntKind.wrap .u64 (Int.tdiv x 36)*36))/\IntKind.wrap .u64 (x-IntKind.wrap .u64 (IntKind.wrap .u64 (Int.tdiv x 36)*36))<36)/\((0:Int)<=(61:Int)/\(61:Int)<(65:Int))/\J0 (u8v l)/\again (U_ (Kt (Int.tdiv x 36)) 36 61 0 l 1) (AH.mk (Kd (Ks (z61 [w_ (az tb36 (Kt (x-IntKind.wrap .u64 (IntKind.wrap .u64 (Int.tdiv x 36)*36)))),w_ b,w_ c,w_ d]) 162) (k_ (u8v l) 5)) 2)) ((0<=x/\x<36)/\((0:Int)<=(61:Int)/\(61:Int)<(65:Int))/\(List.all [w_ (az tb36 x),w_ b,w_ c,w_ d] cellv=true/\List.length l+0=List.length (u8v l)/\List.length l+(4:Nat)<=(70368744177664:Nat)/\(List.length l+4)*(1:Nat)<=(140737488355328:Nat))/\K (Ki [g_ 2 0 (List.length l+4),Vs (ByteArray.mk ⟨[]⟩)]) (AH.mk (Ns (Ks (z61 [w_ (az tb36 x),w_ b,w_ c,w_ d]) 162) AObj.dead (Sg (AObj.gro (u8v l) [w_ (az tb36 x),w_ b,w_ c,w_ d] 5))) 3))):=by kernel_rfl
theorem DM:type_of%(by have h:=@Mm;revert h;delta b_ c_ f_ g_ i_ k_ n_ w_ A_ F_ U_ J0 Kd Ki Ks Kt;exact id):=@Mm
theorem nG{x:Int}(b:0<=x)(a:x<18446744073709551616):IntKind.wrap .u64 x=x:=by unfold IntKind.wrap;exact Int.emod_eq_of_lt b a
theorem B7:∀ k:Fin 36,nth tb36.data.toList k.val=some (dg k.val):=by decide
theorem kn{k:Nat}(h:k<36):az tb36 (k:Int)=((dg k).toNat:Int):=by unfold az;rw[Gs,B7 ⟨k,h⟩]
theorem zQ(x:Nat)(h:x<1679616):IntKind.wrap .u64 (Int.tdiv (x:Int) 36)=((x/36:Nat):Int):=by
 have e:Int.tdiv (x:Int) 36=((x/36:Nat):Int):=by rw[Int.tdiv_eq_ediv_of_nonneg (by omega)];omega
 rw[e,nG (by omega) (by omega)]
theorem y9(x:Nat)(h:x<1679616):IntKind.wrap .u64 ((x:Int)-IntKind.wrap .u64 (((x/36:Nat):Int)*36))=((x%36:Nat):Int):=by rw[nG (x:=((x/36:Nat):Int)*36) (by omega) (by omega),nG (by omega) (by omega)];omega
def I36(X:Nat):Nat->Nat->Int->Int->Int->Int->Prop
 |0,x,_,_,_,_=>x=X
 |1,x,_,_,_,d=>36<=X/\x=X/36/\d=((dg (X%36)).toNat:Int)
 |2,x,_,_,c,d=>36<=X/\36<=X/36/\x=X/36/36/\c=((dg (X/36%36)).toNat:Int)/\d=((dg (X%36)).toNat:Int)
 |3,x,_,b,c,d=>36<=X/\36<=X/36/\36<=X/36/36/\x=X/36/36/36/\b=((dg (X/36/36%36)).toNat:Int)/\c=((dg (X/36%36)).toNat:Int)/\d=((dg (X%36)).toNat:Int)
 |_,_,_,_,_,_=>False
theorem BF:XFb.Ok:=⟨am,aE,ap,.nil⟩
def hUE(l:LB):AH:=⟨(Nd (Nd Lf (some (.gro (u8v l) [] 5)) Lf) (some (.dead)) Lf),2⟩
def fbV(n:Nat):Value:=.tuple ⟨[groS 1 n,.string (aw [])]⟩
theorem end_fb(Q:Value->AH->Prop)(l:LB)(z t:Lh)(n:Nat):endF env (hU l) [] [] [] Q (.tuple ⟨[groS 2 n,.string (aw [])]⟩) ⟨(.node (.node .leaf (some (.cells z 162)) .leaf) (some (.dead)) (.node .leaf (some (.gro (u8v l) t 5)) .leaf)),3⟩=(HF (.agg ⟨glue (u8v l) t⟩)/\Q (fbV n) ⟨(.node (.node .leaf (some (.gro (glue (u8v l) t) [] 5)) .leaf) (some (.dead)) .leaf),2⟩):=by kernel_rfl
theorem aU(l:LB):HF (.agg ⟨u8v l⟩):=.agg λx a=>by obtain⟨b,_,rfl⟩:=Gv.1 a;exact HFi _ _
theorem Fe(l:LB)(X:Nat)(B:X<1679616)(w:l.length<=100000000):WalkF env f92 [groS 0 l.length,.int .u64 (X:Int),.int .i64 36,.bool false,.bool true] (hU l) (fbV (l++dg36 3 X).length) (hUE (l++dg36 3 X)):=by
 have i:(u8v l).length=l.length:=Gu _;refine aJ BF (d:=2) (ns:=[]) (zs:=[]) (ws:=[]) ((jFb_nf _ l (X:Int)).mpr ⟨aU _,?_⟩);have j:∀ (r:LB),dg36 3 X=r->∀ z,endF env (hU l) [] [] [] (λv1 v=>v1=fbV (l++dg36 3 X).length/\v=hUE (l++dg36 3 X)) (.tuple ⟨[groS 2 (l.length+r.length),.string (aw [])]⟩) ⟨(.node (.node .leaf (some (.cells z 162)) .leaf) (some (.dead)) (.node .leaf (some (.gro (u8v l) (u8v r) 5)) .leaf)),3⟩:=λr u z=>by refine(end_fb _ l z (u8v r) _).mpr ?_;rw[b7,<-eL,u];exact⟨aU _,by rw[Gr],rfl⟩
 refine LAtZ.stepF BF [] [] [] slFb (by kernel_rfl) (λm G A=>∃ (k x:Nat) (a b c d:Int),G=frFb l.length (x:Int) ((65-k:Nat):Int)/\A=hFb l a b c d/\I36 X k x a b c d/\k+m=3) ?_ (k:=3) ⟨0,X,0,0,0,0,rfl,rfl,rfl,rfl⟩;rintro m G A ⟨k,x,a,b,c,d,rfl,rfl,g,y⟩;match k,g with
 | 0,g=>
  have h:x=X:=g;have f:x<1679616:=by omega
  have o:=zQ x f;have n:=y9 x f;refine(DP _ _ l (x:Int) a b c d).mpr (Sp.intro (λq=>?_) (λq=>?_));have q:=odt q;have e:36<=x:=by omega
  subst h;have p:x%36<36:=Ih _ (by decide);rw[o,n,kn p];exact⟨(by unfold NZ;decide),⟨by omega,by omega⟩,⟨by omega,by omega⟩,aU _,m-1,by omega,1,_,_,_,_,_,rfl,rfl,⟨e,rfl,rfl⟩,by omega⟩;have q:=odf q;have e:x<36:=by omega
  rw[kn e];subst h;have hd:dg36 3 x=[dg x]:=by unfold dg36;rw[E' e]
  exact⟨⟨by omega,by omega⟩,⟨by omega,by omega⟩,⟨rfl,by rw[i,GP],by omega,by omega⟩,j _ hd _⟩
 | 1,g=>
  obtain⟨s,h,rfl⟩:=g;have f:x<1679616:=by omega
  have o:=zQ x f;have n:=y9 x f;refine(DO _ _ l (x:Int) a b c _).mpr (Sp.intro (λq=>?_) (λq=>?_));have q:=odt q;have e:36<=x:=by omega
  subst h;have p:X/36%36<36:=Ih _ (by decide);rw[o,n,kn p];exact⟨(by unfold NZ;decide),⟨by omega,by omega⟩,⟨by omega,by omega⟩,aU _,m-1,by omega,2,_,_,_,_,_,rfl,rfl,⟨s,e,rfl,rfl,rfl⟩,by omega⟩;have q:=odf q;have e:x<36:=by omega
  rw[kn e];subst h;have hd:dg36 3 X=[dg (X/36),dg (X%36)]:=by unfold dg36;rw[C' (by omega)];unfold dg36;rw[E' (by omega)];rfl
  exact⟨⟨by omega,by omega⟩,⟨by omega,by omega⟩,⟨rfl,by rw[i,GP],by omega,by omega⟩,j _ hd _⟩
 | 2,g=>
  obtain⟨s,t,h,rfl,rfl⟩:=g;have f:x<1679616:=by omega
  have o:=zQ x f;have n:=y9 x f;refine(DN _ _ l (x:Int) a b _ _).mpr (Sp.intro (λq=>?_) (λq=>?_));have q:=odt q;have e:36<=x:=by omega
  subst h;have p:X/36/36%36<36:=Ih _ (by decide);rw[o,n,kn p];exact⟨(by unfold NZ;decide),⟨by omega,by omega⟩,⟨by omega,by omega⟩,aU _,m-1,by omega,3,_,_,_,_,_,rfl,rfl,⟨s,t,e,rfl,rfl,rfl,rfl⟩,by omega⟩;have q:=odf q;have e:x<36:=by omega
  rw[kn e];subst h;have hd:dg36 3 X=[dg (X/36/36),dg (X/36%36),dg (X%36)]:=by unfold dg36;rw[C' (by omega)];unfold dg36;rw[C' (by omega)];unfold dg36;rw[E' (by omega)];rfl
  exact⟨⟨by omega,by omega⟩,⟨by omega,by omega⟩,⟨rfl,by rw[i,GP],by omega,by omega⟩,j _ hd _⟩
 | 3,g=>
  obtain⟨s,t,C,h,rfl,rfl,rfl⟩:=g;have f:x<1679616:=by omega
  have o:=zQ x f;have n:=y9 x f;refine(DM _ _ l (x:Int) a _ _ _).mpr (Sp.intro (λq=>?_) (λq=>?_));have q:=odt q;omega;have q:=odf q;have e:x<36:=by omega
  rw[kn e];subst h;have hd:dg36 3 X=[dg (X/36/36/36),dg (X/36/36%36),dg (X/36%36),dg (X%36)]:=by unfold dg36;rw[C' (by omega)];unfold dg36;rw[C' (by omega)];unfold dg36;rw[C' (by omega)];unfold dg36;rw[Iu e];rfl
  exact⟨⟨by omega,by omega⟩,⟨by omega,by omega⟩,⟨rfl,by rw[i,GP],by omega,by omega⟩,j _ hd _⟩
 |k+4,g=>exact g.elim
end
end Go.T9
