/- A part of the proof. -/
import Derived.Test.YtegefclhhjbfhaaGreatDoorX4
import Derived.Test.YtegefclhhjbfhaaGreatDoorF2
import Derived.Test.YtegefclhhjbfhaaGreatDoorH
set_option linter.unusedVariables false
set_option linter.unusedSimpArgs false
set_option linter.unusedSectionVars false
set_option maxRecDepth 1000000
namespace Go.T9
open Go Go.AM Go.MK Go.Proofs.Tryz
noncomputable section
def cDel(B a:Nat):Value:=.func (.func 96) ⟨[]⟩ ⟨[.pointer (some ⟨B,0,none⟩),.pointer (some ⟨a,0,none⟩)]⟩
def hDl(l o:Le)(a:Int)(m:Nat):AH:=⟨(Nd (Nd (Nd Lf (some (.cells [groS 4 o.length,groS 5 m] 85)) Lf) (some (.cells [.pointer (some ⟨3,0,none⟩)] 82)) (Nd Lf (some (.dead)) Lf)) (some (groI l)) (Nd (Nd Lf (some (groI o)) Lf) (some (.cells [.int .i64 a] 3)) Lf)),6⟩
def frId(n i:Nat):T Value:=(Nd (Nd (Nd (Nd Lf (some (.int .i64 n)) Lf) none Lf) (some (cDel 1 2)) Lf) (some (groS 0 n)) (Nd (Nd (Nd Lf (some (.int .i64 i)) Lf) none Lf) none Lf))
def XId:SX:=⟨env,[],elI,λ_=>.autoN [] [] [] [0,1,7,8]⟩
theorem BY:XId.Ok:=⟨ai,aD,am,.nil⟩
def kFinId(K:KV):KX:=finK XId.E (f75.results).toList K
def jId(K:KV)(l o:Le)(a:Int)(m:Nat):Prop:=aN XId 2 f75 [groS 0 l.length,cDel 1 2] (hDl l o a m) K
def jIdL(K:KV)(b:KF)(l o:Le)(a:Int)(m i:Nat):Prop:=aI XId 2 (Func.ntmps f75) (hDl l o a m) (ay f75) [1,0,1,0] (kFinId K) [] [] [] [0,1,7,8] b (frId l.length i) (hDl l o a m)
def hitD(o:Le)(a x:Int):Bool:=decide (o.getD x.toNat 0=a)
def ixD(o:Le)(fr:Int):Le->Nat->Int
 | [],_=> -1
 |x::l,i=>bif hitD o fr x then(i:Int)else ixD o fr l (i+1)
def bx(o:Le)(a:Int)(l:Le):Le:=l.filter λx=> !hitD o a x
def spId:Lh->List AObj->Option (Ll×Value×List AObj)
 | [.slice (some ⟨B,b,none⟩) n k,.func (.func g) ⟨[]⟩ ⟨[.pointer (some ⟨B1,b1,none⟩),.pointer (some ⟨B2,b2,none⟩)]⟩],[.gro l tl e,.cells [.pointer (some ⟨B3,b3,none⟩)] e1,.cells [.int .i64 fr] e2,.cells [.slice (some ⟨B4,b4,none⟩) n4 k4,.slice (some ⟨B5,b5,none⟩) n5 k5] e3,.gro o tl4 e4,.dead]=>
  bif (((Nat.beq B 0&&Nat.beq b 0)&&(Nat.beq k (unk+3+1)&&Nat.beq g 96))&&((Nat.beq B1 1&&Nat.beq b1 0)&&(Nat.beq B2 2&&Nat.beq b2 0)))&&((((Nat.beq B3 3&&Nat.beq b3 0)&&(Nat.beq B4 4&&Nat.beq b4 0))&&((Nat.beq B5 5&&Nat.beq b5 0)&&(Nat.beq k4 (unk+3+1)&&Nat.beq k5 (unk+3+1))))&&((Nat.beq e 3&&Nat.beq e1 82)&&(Nat.beq e2 3&&(Nat.beq e3 85&&Nat.beq e4 3))))then
   some (some ((tl=[]/\tl4=[])/\(l=inV (l.map deI)/\n=l.length)/\(o=inV (o.map deI)/\n4=o.length)/\(∀x∈l.map deI,0<=x/\x<o.length)/\l.length<4611686018427387904),
    .int .i64 (ixD (o.map deI) fr (l.map deI) 0),[.gro l [] e,.cells [.pointer (some ⟨B3,b3,none⟩)] e1,.cells [.int .i64 fr] e2,.cells [.slice (some ⟨B4,b4,none⟩) n4 k4,.slice (some ⟨B5,b5,none⟩) n5 k5] e3,.gro o [] e4,.dead])else none
 |_,_=>none
def frDl(n:Nat)(i j:Int):T Value:=(Nd (Nd Lf (some (cDel 1 2)) (Nd Lf (some (.int .i64 i)) Lf)) (some (groS 0 n)) (Nd Lf none (Nd Lf (some (.int .i64 j)) Lf)))
def XDl:SX:=⟨env,[(75,frmQ noAr [5] spId)],elI,λ_=>.autoN [] [] [] [0,1,5,6]⟩
def kFinDl(K:KV):KX:=finK XDl.E (f95.results).toList K
def jDl(K:KV)(l o:Le)(a:Int)(m:Nat):Prop:=aN XDl 2 f95 [groS 0 l.length,cDel 1 2] (hDl l o a m) K
def jDlL(K:KV)(c:KF)(b l o:Le)(a:Int)(m i j:Nat):Prop:=aI XDl 2 (Func.ntmps f95) (hDl b o a m) (ay f95) [1,1,1,0,1,0] (kFinDl K) [] [] [] [0,1,5,6] c (frDl l.length i j) (hDl l o a m)
noncomputable def nMt:Nat:=Func.ntmps f53
noncomputable def bMt:Code:=ay f53
def elMt:El:={elT [35] [42]with app:=true,gm:=λ_=>true}
def nsMt:List (NPos×TypeId×Nat):=[(.slot 4,3,1)]
def slMt:Lg:=[1,3,4,5]
def uQ:Lg:=[1,3,4,5,6]
def pMt:Lg:=[1,1,1,1,0,1,0]
def pMtI:Lg:=[1,0,0,1,0]
def XMt:SX:=⟨env,[],elMt,λk=>bif Nat.beq k 5 then .autoN nsMt [] [] slMt else .autoN [] [] [] uQ⟩
def lj(K:KV):KX:=finK XMt.E (f53.results).toList K
def frMt(n m i:Nat):T Value:=(Nd (Nd (Nd Lf (some (groS 1 n)) Lf) (some (.pointer (some ⟨0,0,none⟩))) (Nd Lf (some (.int .i64 i)) Lf)) none (Nd (Nd Lf (some (groS 2 m)) Lf) none Lf))
def FJ(n m i b:Nat):T Value:=(Nd (Nd (Nd Lf (some (groS 1 n)) Lf) (some (.pointer (some ⟨0,0,none⟩))) (Nd Lf (some (.int .i64 i)) Lf)) none (Nd (Nd Lf (some (groS 2 m)) Lf) none (Nd Lf (some (.int .i64 b)) Lf)))
def hMt(s:Int)(c:Li)(a:La)(b:Li)(q:Le):AH:=⟨(Nd (Nd Lf (some (groB b)) Lf) (some (auC s c a)) (Nd Lf (some (groI q)) Lf)),3⟩
def jMt(K:KV)(s:Int)(b:Li)(a:La):Prop:=aN XMt 1 f53 [.agg ⟨[.int .i64 s,dat 1 (blV b),dat 1 (roV a)]⟩] ⟨.leaf,0⟩ K
def jMtL(K:KV)(d:KF)(s:Int)(b:Li)(c:La)(a:Li)(q:Le)(i:Nat):Prop:=aI XMt 1 nMt ⟨.leaf,0⟩ bMt pMt (lj K) nsMt [] [] slMt d (frMt a.length q.length i) (hMt s b c a q)
noncomputable def kMt2(K:KV)(a:KF):KX:=stepF XMt 1 nMt ⟨.leaf,0⟩ bMt pMt (lj K) nsMt [] [] slMt a
def jMtI(K:KV)(f d:KF)(s:Int)(c:Li)(e:La)(a:Li)(q:Le)(i b:Nat):Prop:=aI XMt 1 nMt ⟨.leaf,0⟩ (an (subC pMt bMt)) pMtI (kMt2 K f) [] [] [] uQ d (FJ a.length q.length i b) (hMt s c e a q)
end
end Go.T9
set_option maxRecDepth 100000
namespace Go.T9
open Go.HK
abbrev _root_.Go.Ki:=@Eq.trans
section
variable {S:Type}[DecidableEq S]
theorem kK:∀ (l q:List S),addS q l=ddA q l
 | [],q=>rfl
 |x::l,q=>by simp only[addS,ddA];by_cases h:x∈q;rw[Ht h,Ht h];exact kK l q;rw[Hm h,Hm h];exact kK l _
theorem ku(sc:S->List S):∀ (f:Nat) (q:List S) (i:Nat),exS sc f q i=bfsK sc f q i
 |0,q,i=>rfl
 | f+1,q,i=>by
  simp only[exS,bfsK];cases q[i]? with
  |none=>rfl
  |some s=>simp only[kK];exact ku sc f _ _
theorem rR:∀ (l:List S) (k:S),idN l k=ixK l k
 | [],k=>rfl
 |x::l,k=>by simp only[idN,ixK,rR l k]
theorem nO(sc:S->List S)(ks:List S):bc sc ks ks.length=(tabK sc ks).map (λr=>r.map Int.ofNat):=by unfold bc tabK;simp_all [HX,H4,HQ,nums,Int.ofNat,rR]
def dR(b:S->Nat->S)(a:S->Bool)(k:S):Lang:=λw=>a (w.foldl (λs c=>b s (c%256)) k)
end
def dlt(a:La)(x c:Nat):Nat:=((a.getD x []).getD c 0).toNat
def acN(a:Li)(x:Nat):Bool:=a.getD x false
def clN(C:Le)(c:Nat):Nat:=(C.getD (c%256) 0).toNat
section
variable {S:Type}[DecidableEq S]
theorem ql{st:S->Nat->S}{F:Lg}{P:S->Prop}{N:Nat}{d:S}{ks:List S}(h:EI (λk=>F.map (st k)) P N d ks ks.length){k:S}(b:k∈ks){j c:Nat}(e:F[j]? =some c):
 dlt (bc (λk=>F.map (st k)) ks ks.length) (idN ks k) j=idN ks (st k c)/\st k c∈ks:=by have a:=ou b;refine⟨?_,h.cl (idN ks k) k (ot b) a _ (Hn.2 ⟨c,HR e,rfl⟩)⟩;grind [dlt,bc,HX,HY,List.map,Ik,JD,nums]
theorem mz{st:S->Nat->S}{F:Lg}{C:Le}{P:S->Prop}{N:Nat}{d:S}{ks:List S}(h:EI (λk=>F.map (st k)) P N d ks ks.length)(a:∀ c,c<256->∃ c',F[(C.getD c 0).toNat]? =some c'/\∀ k,P k->st k c'=st k c)(ac:S->Bool):
 ∀(w:Lg) {k:S},k∈ks->acN (ks.map ac) (runW (dlt (bc (λk=>F.map (st k)) ks ks.length)) (idN ks k) (w.map (clN C)))=dR st ac k w
 | [],k,hk=>by show acN (ks.map ac) (idN ks k)=ac k;grind [acN,HY,ou]
 |c::w,k,hk=>by obtain⟨c',f,e⟩:=a (c%256) (Iy _ (by decide));obtain⟨i,b⟩:=ql h hk f;have g:=e k (h.inp k hk);rw[g]at i b;have j:=mz h a ac w b;show acN (ks.map ac) (runW _ (dlt _ (idN ks k) (clN C c)) (w.map (clN C)))=dR st ac (st k (c%256)) w;grind [clN]
end
variable {n x0:Nat}{δ:Nat->Nat->Nat}
theorem gx(key:Nat->LB){c:Nat}(h:c≠n):(clsC key (n+1)).getD c 0=(clsC key n).getD c 0:=by show((clsC key n).set n _).getD c 0=_;grind
theorem kA(key:Nat->LB)(h:n<256):(clsC key (n+1)).getD n 0=(idN (clsK key n) (key n):Nat):=by show((clsC key n).set n _).getD n 0=_;rw[HY,I4,Ht rfl,Ht (by rw[jr];exact h)];rfl
theorem xC(key:Nat->LB):∀ n,n<=256->∀ c,c<n->∃ c',(clsF key n)[((clsC key n).getD c 0).toNat]? =some c'/\key c'=key c
 |0,_,c,h=>by omega
 | n+1,hn,c,hc=>by
  by_cases e:c=n;subst e;rw[kA key (by omega),D'];by_cases a:key c∈clsK key c;rw[g9 a];have:=ou a;unfold clsK at this ⊢;rw[List.getElem?_map]at this;cases d:(clsF key c)[idN ((clsF key c).map key) (key c)]? with
  |none=>rw[d]at this;cases this
  |some y=>rw[d]at this;exact⟨y,rfl,Iw this⟩
  rw[hJ a,jk a,gZ];exact⟨c,by simp,rfl⟩;rw[gx key e];obtain⟨c',b,f⟩:=xC key n (by omega) c (by omega);refine⟨c',?_,f⟩;by_cases a:key n∈clsK key n;rw[g9 a];exact b;rw[hJ a,Ib (Hx.1 b).1];exact b
theorem iI(key:Nat->LB):∀ n,n<=256->∀ j c,(clsF key n)[j]? =some c->(clsC key n).getD c 0=(j:Nat)
 |0,_,j,c,h=>by simp[clsF]at h
 | n+1,hn,j,c,h=>by
  by_cases b:key n∈clsK key n;rw[g9 b]at h;have:=eJ key n c (HR h);rw[gx key (by omega)];exact iI key n (by omega) j c h;rw[hJ b]at h;by_cases d:j<(clsF key n).length;rw[Ib d]at h;have:=eJ key n c (HR h);rw[gx key (by omega)];exact iI key n (by omega) j c h;have a:j<(clsF key n++[n]).length:=(Hx.1 h).1;rw[E',List.length_singleton]at a;have e:j=(clsF key n).length:=by omega
  rw[e,Ip (Hw _),IX]at h;grind [kA,jk,gZ]
def alkD(F:Lg)(b:Li)(a:La):HS:=da (dlt a) a.length F.length (acN b)
def lsSc(C:Le)(F:Lg)(b:Li)(a:La):Nat->Lg:=scB (dlt a) (clN C) (alkD F b a)
def lsO(C:Le)(F:Lg)(a:Li)(b:La):Lg:=bfsK (lsSc C F a b) 90001 [oN (alkD F a b).of 0] 0
def lsT(C:Le)(F:Lg)(a:Li)(b:La):List Lg:=tabK (lsSc C F a b) (lsO C F a b)
def lsA(C:Le)(F:Lg)(ac:Li)(a:La):Li:=(lsO C F ac a).map λb=>acN ac (hd (alkD F ac a) b)
def scR(δ :Nat->Nat->Nat)(x:Nat):Lg:=(List.range 256).map (δ x)
def rfL(δ :Nat->Nat->Nat)(a:Nat):Lg:=bfsK (scR δ) 90001 [a] 0
def ac01(a:Nat->Bool)(x:Nat):Nat:=if a x then 1 else 0
def rfC(δ :Nat->Nat->Nat)(b:Nat->Bool)(a:Nat):Nat->Nat:=(rndM δ 256 (rfL δ a) 90003 (ac01 b) 0).1
def rfSc(δ :Nat->Nat->Nat)(b:Nat->Bool)(a:Nat):Nat->Lg:=scM δ (rfL δ a) (rfC δ b a)
def rfO(δ :Nat->Nat->Nat)(b:Nat->Bool)(a:Nat):Lg:=bfsK (rfSc δ b a) 90001 [rfC δ b a a] 0
def rfT(δ :Nat->Nat->Nat)(b:Nat->Bool)(a:Nat):List Lg:=tabK (rfSc δ b a) (rfO δ b a)
def rfA(δ :Nat->Nat->Nat)(b:Nat->Bool)(a:Nat):Li:=(rfO δ b a).map λk=>b (repM (rfL δ a) (rfC δ b a) k)
structure RA (δ :Nat->Nat->Nat) (n x0:Nat):Prop where
 st:x0<n
 ent:∀ x,x<n->∀ c, δ x c<n
 per:∀ x c, δ x c= δ x (c%256)
 n1:n<=90000
theorem RA.ei(h:RA δ n x0):EI (scR δ) (λx=>x<n) 90001 x0 (rfL δ x0) (rfL δ x0).length:=by
 have e:=h.n1;have:=EI.run (sc:=scR δ) (P:=λx=>x<n) (N:=90001) (st:=x0) (λk d s a=>by obtain⟨c,_,rfl⟩:=Hn.1 a;exact h.ent k d c) (λl hd b=>by have:=cB n l hd b;omega) 90001 (EI.init h.st) rfl
 rw[ku]at this;exact this
theorem RA.cl(h:RA δ n x0):∀ s∈rfL δ x0,∀b, δ s b∈rfL δ x0:=λs c b=>by rw[h.per s b];obtain⟨i,a⟩:=List.mem_iff_getElem?.1 c;exact h.ei.cl i s (Hx.1 a).1 a _ (Hn.2 ⟨b%256,If.2 (Iy _ (by decide)),rfl⟩)
theorem RA.len(h:RA δ n x0):(rfL δ x0).length<=n:=cB n _ h.ei.nd h.ei.inp
theorem RA.mem(h:RA δ n x0):x0∈rfL δ x0:=HR h.ei.hd
theorem qM{δ :Nat->Nat->Nat}(h:∀ x c, δ x c= δ x (c%256)):∀ (w:Lg) (x:Nat),runW δ x (w.map λc=>c%256)=runW δ x w
 | [],x=>rfl
 |c::w,x=>by show runW δ (δ x (c%256)) (w.map λc=>c%256)=runW δ (δ x c) w;rw[qM h w,<-h x c]
theorem rx(h:∀ x c, δ x c= δ x (c%256))(acc:Nat->Bool)(x:Nat):bF δ (λc=>c%256) acc x=bF δ id acc x:=by funext w;unfold bF;rw[qM h,IC]
theorem RA.cls(h:RA δ n x0)(acc:Nat->Bool):∀ s∈rfL δ x0,∀t∈rfL δ x0,(rfC δ acc x0 s=rfC δ acc x0 t↔bF δ id acc s=bF δ id acc t):=λs a t d=>by
 have m:=h.len;have o:=h.n1;obtain⟨i,_⟩:=pn (δ := δ) (nb:=256) (l:=rfL δ x0) (acc:=acc) (λs a b _=>h.cl s a b) 90003 (cl:=ac01 acc) (c:=0) (λs _ t _ e=>by
  have:=e [] (λc g=>by cases g);unfold ac01;have j:acc s=acc t:=this;rw[j]) (λs _ t _ e=>by
  grind [ac01]) (.inr ⟨rfl,List.ne_nil_of_mem h.mem⟩) (by omega)
 unfold rfC;rw[i s a t d,<-jj (cls:=λc=>c%256) (λc=>Iy _ (by decide)) (λk f=>⟨k,Jk f⟩),rx h.per,rx h.per]
section
variable {S:Type}[DecidableEq S]
theorem mF:∀ {l:List S},l.Nodup->∀ (i:Nat) (h:i<l.length),idN l l[i]=i
 | [],_,i,h=>by simp at h
 |x::l,hn,0,h=>by simp[idN]
 | x::l,hn,i+1,h=>by
  rw[List.nodup_cons]at hn;have b:i<l.length:=by simpa using h
  have a:¬ x=l[i]:=λe=>hn.1 (e▸Hq b);show idN (x::l) l[i]=i+1;simp only[idN,Hm a,mF hn.2 i b]
structure GD (st:S->Nat->S) (P:S->Prop) (C:Le) (F:Lg) (s0:S) (ks:List S):Prop where
 ei:EI (λk=>F.map (st k)) P 90001 s0 ks ks.length
 cl:∀ c,c<256->∃ c',F[(C.getD c 0).toNat]? =some c'/\∀ k,P k->st k c'=st k c
 sur:∀ k,k<F.length->∃ c,clN C c=k
theorem GD.of{st:S->Nat->S}{P:S->Prop}{key:Nat->LB}{b:S}{ks:List S}(C:Le)(F:Lg)(e:C=clsC key 256)(a:F=clsF key 256)(j:EI (λk=>F.map (st k)) P 90001 b ks ks.length)(d:∀ k,P k->∀ c c',c<256->c'<256->key c'=key c->st k c'=st k c):GD st P C F b ks:=by have i:=xC key 256 (Hw _);have h:=iI key 256 (Hw _);have f:=eJ key 256;rw[<-e,<-a]at i h;rw[<-a]at f;clear e a;refine⟨j,λc l=>?_,λk d=>?_⟩;grind;have g:=f _ (Hq d);refine⟨F[k],?_⟩;unfold clN;grind
variable {st:S->Nat->S}{P:S->Prop}{C:Le}{F:Lg}{s0:S}{ks:List S}{ac:S->Bool}
theorem GD.mem0(h:GD st P C F s0 ks):s0∈ks/\idN ks s0=0:=by
 have a:=h.ei.hd;refine⟨HR a,?_⟩;cases ks with
 |nil=>simp at a
 |cons x ks=>grind [idN]
theorem GD.rlen(ks:List S):(bc (λk=>F.map (st k)) ks ks.length).length=ks.length:=by unfold bc;grind
theorem GD.dlt(h:GD st P C F s0 ks):∀ x,x<ks.length->∀ c,c<F.length->Go.T9.dlt (bc (λk=>F.map (st k)) ks ks.length) x c<ks.length:=λx a c d=>by obtain⟨b,e⟩:=ql h.ei (Hq a) (Hr d);rw[mF h.ei.nd x a]at b;rw[b];exact ot e
theorem GD.clN(h:GD st P C F s0 ks):∀ c,Go.T9.clN C c<F.length:=λc=>by obtain⟨b,a,_⟩:=h.cl (c%256) (Iy _ (by decide));exact(Hx.1 a).1
theorem kf(δ :Nat->Nat->Nat)(cls:Nat->Nat)(acc:Nat->Bool)(x:Nat):bF δ cls acc x []=acc x:=rfl
theorem om(h:GD st P C F s0 ks){δ :Nat->Nat->Nat}{n x0:Nat}{acc:Nat->Bool}(i:RA δ n x0)(g:Bool->Bool)(D:∀ x y,g x=g y->x=y)(B:(λw=>g (bF δ id acc x0 w))=dR st ac s0):
 lsT C F (ks.map ac) (bc (λk=>F.map (st k)) ks ks.length)=rfT δ acc x0/\lsA C F (ks.map ac) (bc (λk=>F.map (st k)) ks ks.length)=(rfA δ acc x0).map g:=by
 obtain⟨r,z⟩:=h.mem0;have o:0<ks.length:=I7 r;have m:=GD.rlen (st:=st) (F:=F) ks;have j:=h.dlt;have d:=mz h.ei h.cl ac;generalize A:bc (λk=>F.map (st k)) ks ks.length=rw at*;obtain⟨f,t⟩:=jx (δ :=Go.T9.dlt rw) (n:=ks.length) (nc:=F.length) (acc:=acN (ks.map ac)) o j;have q:alkD F (ks.map ac) rw=da (Go.T9.dlt rw) ks.length F.length (acN (ks.map ac)):=by unfold alkD;rw[m]
 obtain⟨U,b2,R⟩:=lN (cls:=Go.T9.clN C) j h.clN h.sur f t;obtain⟨Q,O,M⟩:=kB (δ := δ) (acc:=acc) (l:=rfL δ x0) (cl:=rfC δ acc x0) i.cl (i.cls acc);have c:=f.lt 0 o;obtain⟨K,J⟩:=kP f c;obtain⟨v,u⟩:=gF (l:=rfL δ x0) (cl:=rfC δ acc x0) ⟨x0,i.mem,rfl⟩;unfold lsT lsA lsO lsSc rfT rfA rfO rfSc;rw[q];generalize V:da (Go.T9.dlt rw) ks.length F.length (acN (ks.map ac))=s at*;have E:bF (Go.T9.dlt rw) (Go.T9.clN C) (acN (ks.map ac)) (hd s (oN s.of 0))=λw=>g (bF δ id acc (repM (rfL δ x0) (rfC δ acc x0) (rfC δ acc x0 x0)) w):=by rw[(jj h.clN h.sur).2 ((t _ K 0 o).1 J),(i.cls acc _ v x0 i.mem).1 u,B];funext w;have:=d w r;rw[z]at this;exact this
 generalize 90001=N;obtain⟨I,H⟩:=ze (P1:=λb=>b<s.mem.length) (P2:=λk=>∃ s∈rfL δ x0,rfC δ acc x0 s=k) (l2:=λk w=>g (bF δ id acc (repM (rfL δ x0) (rfC δ acc x0) k) w)) U b2 R c (λa b G p e=>Q a b G p (funext λw=>D _ _ (congrFun e w))) (λb p=>by have:=Il (List.map λ(L:Lang) w=>g (L w)) (O b p);rw[H4]at this;refine Ki this ?_;unfold scL;rw[H4];rfl) M ⟨x0,i.mem,rfl⟩ E N
 refine⟨I,?_⟩;have:=Il (List.map λL:Lang=>L []) H;rw[H4,H4]at this;rw[H4];refine Ki ?_ (Ki this ?_);grind [HQ,kf,Go.T9.dlt,Go.T9.clN,acN];exact HQ λk _=>Il g (kf δ id acc (repM (rfL δ x0) (rfC δ acc x0) k))
theorem lg(h:GD st P C F s0 ks){δ :Nat->Nat->Nat}{n x0:Nat}{acc:Nat->Bool}(a:RA δ n x0)(b:bF δ id acc x0=dR st ac s0):
 lsT C F (ks.map ac) (bc (λk=>F.map (st k)) ks ks.length)=rfT δ acc x0/\lsA C F (ks.map ac) (bc (λk=>F.map (st k)) ks ks.length)=rfA δ acc x0:=by obtain⟨d,c⟩:=om (ac:=ac) h a id (λ_ _ e=>e) b;simp_all
end
abbrev _root_.Go.Ig:=@Eq.refl
section
variable {S:Type}[DecidableEq S]
theorem xg{sc:S->List S}{Q:S->Prop}(a:∀ k,Q k->∀ s∈sc k,Q s):∀ (f:Nat) (q:List S) (i:Nat),(∀x∈q,Q x)->∀ x∈exS sc f q i,Q x
 |0,q,i,hq=>hq
 | f+1,q,i,hq=>by
  simp only[exS];cases h:q[i]? with
  |none=>exact hq
  |some s=>refine xg a f _ _ λx b=>?_;grind [du,HR]
variable {st:S->Nat->S}{P:S->Prop}{C:Le}{F:Lg}{s0:S}{ks:List S}{ac:S->Bool}
theorem GD.ks_eq(h:GD st P C F s0 ks):ks=exS (λk=>F.map (st k)) 90001 [s0] 0:=by
 rw[<-h.ei.fin];generalize 90001-ks.length=m;cases m with
 |zero=>rfl
 |succ m=>simp_all [exS,addS,Jv,Hw]
theorem DF(h:GD st P C F s0 ks)(hP:ks.length<=90000):(lsO C F (ks.map ac) (bc (λk=>F.map (st k)) ks ks.length)).length=(alkD F (ks.map ac) (bc (λk=>F.map (st k)) ks ks.length)).mem.length:=by
 obtain⟨G,J⟩:=h.mem0;have H:0<ks.length:=I7 G;have u:=GD.rlen (st:=st) (F:=F) ks;have f:=h.dlt;have z:∀ {k:S},k∈ks->∀ {j c:Nat},F[j]? =some c->Go.T9.dlt (bc (λk=>F.map (st k)) ks ks.length) (idN ks k) j=idN ks (st k c)/\st k c∈ks:=λr _ _ t=>ql h.ei r t;generalize L:bc (λk=>F.map (st k)) ks ks.length=rw at*;obtain⟨d,D⟩:=jx (δ :=Go.T9.dlt rw) (n:=ks.length) (nc:=F.length) (acc:=acN (ks.map ac)) H f;have B:alkD F (ks.map ac) rw=da (Go.T9.dlt rw) ks.length F.length (acN (ks.map ac)):=by unfold alkD;rw[u]
 obtain⟨b1,b2,Y⟩:=lN (cls:=Go.T9.clN C) f h.clN h.sur d D;unfold lsO lsSc;rw[B];generalize Z:da (Go.T9.dlt rw) ks.length F.length (acN (ks.map ac))=s at*;have R:=d.le;have a:=EI.run (sc:=scB (Go.T9.dlt rw) (Go.T9.clN C) s) (P:=λb=>b<s.mem.length) (N:=90001) (st:=oN s.of 0) Y (λl hd M=>by have:=cB s.mem.length l hd M;omega) 90001 (EI.init (d.lt 0 H)) rfl;rw[ku]at a;have v:=h.ks_eq;generalize 90001=N at a v ⊢;generalize bfsK (scB (Go.T9.dlt rw) (Go.T9.clN C) s) N [oN s.of 0] 0=o at*;have w:∀ k∈ks,k∈ks/\oN s.of (idN ks k)∈o:=by
  have hq:=xg (sc:=λk=>F.map (st k)) (Q:=λk=>k∈ks/\oN s.of (idN ks k)∈o) (λk ⟨r,O⟩ x p=>by
   obtain⟨c,V,rfl⟩:=Hn.1 p;obtain⟨j,t⟩:=List.mem_iff_getElem?.1 V;obtain⟨e1,X⟩:=z r t;refine⟨X,?_⟩;have e:=(Hx.1 t).1;obtain⟨y,K⟩:=h.sur j e;obtain⟨i,I⟩:=List.mem_iff_getElem?.1 O;have g:=ot r;have A:=d.lt _ g;obtain⟨q,E⟩:=kP d A;have U:oN s.of (Go.T9.dlt rw (hd s (oN s.of (idN ks k))) j)=oN s.of (Go.T9.dlt rw (idN ks k) j):=(D _ (f _ q j e) _ (f _ g j e)).2 (((D _ q _ g).1 E).next e);have:=a.cl i _ (Hx.1 I).1 I (oN s.of (Go.T9.dlt rw (hd s (oN s.of (idN ks k))) j)) (by
    unfold scB;refine Hn.2 ⟨y%256,If.2 (Iy _ (by decide)),?_⟩;have:Go.T9.clN C (y%256)=j:=by rw[<-K];unfold Go.T9.clN;rw[Nat.mod_mod]
    rw[this])
   grind) N [s0] 0 (λx p=>by
   rw[Ie.1 p];exact⟨G,by rw[J];exact HR a.hd⟩)
  grind
 have h1:=cf (l:=o) (m:=List.range s.mem.length) a.nd λx p=>If.2 (a.inp x p);have h2:=cf (l:=List.range s.mem.length) (m:=o) List.nodup_range λb A=>by obtain⟨q,E⟩:=kP d (If.1 A);have:=(w _ (Hq q)).2;rw[mF h.ei.nd _ q,E]at this;exact this
 grind
end
def dA(a:AU)(x c:Nat):Nat:=((a.2.2.getD x []).getD (c%256) 0).toNat
theorem xx(a:AU)(x c:Nat):dA a x c=dA a x (c%256):=by unfold dA;rw[Nat.mod_mod]
def cw(a:AU):Lang:=bF (dA a) id (acN a.2.1) a.1.toNat
theorem oH{a:AU}{q:Int}(c:Nat):dA a q.toNat c=(stp a.2.2 q (c%256)).toNat:=rfl
theorem RA.of{a:AU}(h:OkA a):RA (dA a) a.2.2.length a.1.toNat:=by have g:=h.st;have f:=h.n1;refine⟨by omega,λx d c=>?_,xx a,by omega⟩;have:=eY h (q:=(x:Int)) (by omega) (by omega) (b:=c%256) (Iy _ (by decide));have e:dA a x c=(stp a.2.2 (x:Int) (c%256)).toNat:=rfl;rw[e];omega
theorem Bj{a:AU}(h:OkA a):∀ (w:Lg) (q:Int),inA a q->dR (stS a) (acS a) (q,0) w=acN a.2.1 (runW (dA a) q.toNat w)
 | [],q,hq=>rfl
 |c::w,q,hq=>by have d:=eY h hq.1 hq.2 (b:=c%256) (Iy _ (by decide));have:=Bj h w (stp a.2.2 q (c%256)) d;rw[<-oH]at this;exact this
theorem ry{a:AU}(h:OkA a):cw a=dR (stS a) (acS a) (a.1,0):=by funext w;rw[Bj h w a.1 h.st];unfold cw bF;rw[IC]
theorem GD.single{a:AU}(h:OkA a):GD (stS a) (inS a) (caS a) (fsS a) (a.1,0) (reS (fsS a) a):=
 by
 have b:fsS a=clsF (keyS a.2.2) 256:=by unfold fsS;exact Ig _
 have g:caS a=clsC (keyS a.2.2) 256:=by unfold caS;exact Ig _
 have d:∀ c∈fsS a,c<256:=by rw[b];exact λc f=>eJ _ _ _ f
 have i:=ei_S h d;generalize fsS a=F at*;generalize caS a=C at*;exact .of (key:=keyS a.2.2) C F g b i λk _ c j _ _ e=>CG h k e
end Go.T9
set_option maxRecDepth 1000000
set_option maxHeartbeats 400000
namespace Go.T9
open Go Go.AM Go.MK Go.HK Go.Proofs.Tryz
noncomputable section
abbrev _root_.Go.Kj:=@List.nodup_nil
theorem _root_.Go.I5:type_of% @List.range_succ:=@List.range_succ
abbrev KG:=Value.bool true
abbrev Ls:=λa b c=>Sg (g_ a b c)
variable {q:Lg}{i n x:Nat}
theorem Mp(K:KV)(s:Int)(b:Li)(a:La):jMt K s b a=((0<=KY a/\KY a<=KY a/\KY a<=281474976710656/\1*Int.toNat (KY a)<=281474976710656)/\(0<=s/\s<o_ (KY a))/\Int.toNat (I_ (Int.toNat s+0))<List.length (List.replicate (G_ (KY a)) O')/\U' b/\LQ a/\Kt (List.set (List.replicate (G_ (KY a)) O') (G_ (I_ (Int.toNat s+0))) KG)/\Kt [Vi s]/\LAtZ XMt 1 f53.ntmps (AH.mk Lf 0) (ay f53) [1,1,1,1,0,1,0] (finK (SX.E XMt) f53.results.toList K) (No (Ns (Ls 1 0 (G_ (KY a))) i_ (Kx 0)) (H_ (t_ 2 0 1 18446744073709551620))) (K_ (Lu (List.set (List.replicate (G_ (KY a)) O') (G_ (I_ (Int.toNat s+0))) KG) 4) (h_ s b a) (Lu [Vi s] 3) 3)):=by kernel_rfl
theorem jMt_nf:type_of%(by have h:=@Mp;revert h;delta b_ d_ g_ h_ i_ j_ l_ o_ t_ G_ H_ I_ K_ S_ O' U' Kt Kx KG KY Ls Lu LQ;exact id):=@Mp
theorem Mq(K:KV)(d:KF)(s:Int)(b:Li)(c:La)(a:Li)(q:Le)(i:Nat):jMtL K d s b c a q i=(Sp (decide ((i:Int)<I_ q.length)) (U' b/\LQ c/\Kt (blV a)/\F_ q/\LAtZ XMt 1 nMt (AH.mk Lf 0) (an (subC pMt bMt)) [1,0,0,1,0] (stepF XMt 1 nMt (AH.mk Lf 0) bMt pMt (lj K) nsMt [] [] slMt d) (No (Ns (Ls 1 0 a.length) i_ (Kx i)) (No (Ls 2 0 q.length) (Kx 0))) (K_ (Sg (Z_ a)) (h_ s b c) (Lp q) 3)) (K (g_ 2 0 q.length) (K_ (Sg (Z_ a)) (h_ s b c) (Lp q) 3))):=by kernel_rfl
theorem Eb:type_of%(by have h:=@Mq;revert h;delta b_ d_ f_ g_ h_ i_ l_ F_ I_ K_ S_ Z_ U' Kt Kx Lp Ls LQ;exact id):=@Mq
abbrev s_:=λa b=>(↑(Int.toNat (aa a b)+0):Int)
abbrev Oj(a:Le)(b:Nat)(c:La):Prop:=(0<=aa (inV a) b/\aa (inV a) (b:Int)<KY c)
abbrev OE(a:Nat)(b:La)(c:Le)(d:Nat):Prop:=(0<=(a:Int)/\(a:Int)<j_ (r_ b (P_ c d)))
theorem Mr(K:KV)(f:KF)(e:KF)(s:Int)(d:Li)(a:La)(c:Li)(q:Le)(i b:Nat):jMtI K f e s d a c q i b=(Sp (decide ((b:Int)<256)) (Oa i q/\nth (inV q) i=some (Vi (P_ q i))/\Oj q i a/\nth (roV a) (G_ (o_ (P_ q i)))=some (Vd 1 (r_ a (P_ q i)))/\OE b a q i/\nth (r_ a (P_ q i)) b=some (Vi (aa (r_ a (P_ q i)) b))/\(0<=aa (r_ a (P_ q i)) b/\aa (r_ a (P_ q i)) (b:Int)<I_ c.length)/\nth (blV c) (G_ (s_ (r_ a (P_ q i)) b))=some (Lt (blV c) (s_ (r_ a (P_ q i)) b))/\Sp (! az (blV c) (s_ (r_ a (P_ q i)) b)) ((0<=aa (r_ a (P_ q i)) b/\aa (r_ a (P_ q i)) (b:Int)<I_ c.length)/\Int.toNat (s_ (r_ a (P_ q i)) b)<List.length (blV c)/\(List.all [Vi (aa (r_ a (P_ q i)) b)] cellv=true/\List.length q+0=List.length (inV q)/\List.length q+(1:Nat)<=(70368744177664:Nat)/\(List.length q+1)*(8:Nat)<=(140737488355328:Nat))/\U' d/\LQ a/\Kt (List.set (blV c) (G_ (s_ (r_ a (P_ q i)) b)) KG)/\Kt (inV q++[Vi (aa (r_ a (P_ q i)) b)])/\e (No (Ns (Ls 1 0 c.length) i_ (Kx i)) (No (Ls 2 0 (List.length q+1)) (x_ ((b:Int)+1)))) (K_ (Lu (List.set (blV c) (G_ (s_ (r_ a (P_ q i)) b)) KG) 4) (h_ s d a) (Lu (inV q++[Vi (aa (r_ a (P_ q i)) b)]) 3) 3)) (U' d/\LQ a/\Kt (blV c)/\F_ q/\e (No (Ns (Ls 1 0 c.length) i_ (Kx i)) (No (Ls 2 0 q.length) (x_ ((b:Int)+1)))) (K_ (Sg (Z_ c)) (h_ s d a) (Lp q) 3))) (U' d/\LQ a/\Kt (blV c)/\F_ q/\f (No (Ns (Ls 1 0 c.length) i_ (x_ ((i:Int)+1))) (H_ (g_ 2 0 q.length))) (K_ (Sg (Z_ c)) (h_ s d a) (Lp q) 3))):=by kernel_rfl
theorem Ec:type_of%(by have h:=@Mr;revert h;delta OE Oj Oa b_ d_ f_ g_ h_ i_ j_ l_ o_ r_ s_ x_ F_ G_ H_ I_ K_ P_ S_ Z_ U' Kt Kx KG KY Lp Ls Lt Lu LQ;exact id):=@Mr
structure OkL (a:AU):Prop where
 n0:0<a.2.2.length
 n1:a.2.2.length<=90000
 acc:a.2.1.length=a.2.2.length
 row:∀ r∈a.2.2,r.length=256
 st:0<=a.1/\a.1<a.2.2.length
 ent:∀ r∈a.2.2,∀x∈r,0<=x/\x<a.2.2.length
theorem OkA.toL{a:AU}(h:OkA a):OkL a:=⟨h.n0,by have:=h.n1;omega,h.acc,h.row,h.st,h.ent⟩
theorem OkL.at'{a:AU}(h:OkL a){c:Nat}(d:x<a.2.2.length)(g:c<256):∃ j:c<a.2.2[x].length,a.2.2[x][c]=(dA a x c:Int)/\dA a x c<a.2.2.length:=by
 have e:=h.row _ (Hq d);have b:c<a.2.2[x].length:=by omega
 have f:=h.ent _ (Hq d) _ (Hq b);grind [dA,Jk,gD]
theorem RAL.of{a:AU}(h:OkL a):RA (dA a) a.2.2.length a.1.toNat:=by have e:=h.st;have d:=h.n1;refine⟨by omega,λx b c=>?_,λx c=>by unfold dA;rw[Nat.mod_mod],by omega⟩;have:=(h.at' b (Iy c (by decide:0<256)));grind [dA,Nat.mod_mod]
structure MQ (n:Nat) (q:Lg) (sn:Li):Prop where
 ls:sn.length=n
 at':∀ x,x<n->sn.getD x false=decide (x∈q)
 nd:q.Nodup
 lt:∀ x∈q,x<n
theorem MQ.add{sn:Li}(h:MQ n q sn)(f:x<n)(g:¬ x∈q):MQ n (q++[x]) (sn.set x true):=by
 refine⟨by rw[Hz];exact h.ls,λy c=>?_,Je.2 ⟨h.nd,by simp,λa l b k=>by grind⟩,λy c=>?_⟩
 have j:=h.ls;rw[HY,I4];by_cases e:x=y;grind;rw[Hm e,<-HY,h.at' y c];grind;rcases H3.1 c with d|d;exact h.lt y d;grind
theorem MQ.init(b:x<n):MQ n [x] ((List.replicate n false).set x true):=by have c:MQ n [] (List.replicate n false):=⟨HZ,λy a=>by grind,Kj,λy a=>by cases a⟩;exact c.add b (by simp)
theorem MQ.le{sn:Li}(h:MQ n q sn):q.length<=n:=by have:=cf h.nd (m:=List.range n) λx a=>If.2 (h.lt x a);grind
theorem sy:∀ (l acc:Lg) (x:Nat),ddA acc (l++[x])=if x∈ddA acc l then ddA acc l else ddA acc l++[x]
 | [],acc,x=>rfl
 |y::l,acc,x=>sy l _ x
def scT(δ :Nat->Nat->Nat)(s c:Nat):Lg:=(List.range c).map (δ s)
theorem yz(δ :Nat->Nat->Nat)(s c:Nat):scT δ s (c+1)=scT δ s c++[δ s c]:=by unfold scT;rw[I5,HD];rfl
theorem ky:∀ (l acc:Lg),∃r,ddA acc l=acc++r
 | [],acc=>⟨[],by rw[Hu];rfl⟩
 |y::l,acc=>by show ∃r,ddA (if y∈acc then acc else acc++[y]) l=acc++r;by_cases h:y∈acc;rw[Ht h];exact ky l acc;rw[Hm h];obtain⟨r,a⟩:=ky l (acc++[y]);grind
theorem oR{sc:Nat->Lg}{s:Nat}(h:q[i]? =some s)(f:Nat):bfsK sc (f+1) q i=bfsK sc f (ddA q (sc s)) (i+1):=by simp only[bfsK,h]
theorem oT{sc:Nat->Lg}(h:q.length<=i):∀ f,bfsK sc f q i=q
 |0=>rfl
 |f+1=>by simp only[bfsK,Jv h]
theorem gS(l:Lg)(x:Nat):inF (l++[x])=inF l++[(x:Int)]:=HD
theorem lP:XMt.Ok:=⟨ai,aD,am,.nil⟩
def scQ(δ :Nat->Nat->Nat)(a:Lg)(s b:Nat):Lg:=ddA a (scT δ s b)
theorem qL(δ :Nat->Nat->Nat)(a:Lg)(s b:Nat):scQ δ a s (b+1)=if δ s b∈scQ δ a s b then scQ δ a s b else scQ δ a s b++[δ s b]:=by unfold scQ;rw[yz,sy]
theorem uT(δ :Nat->Nat->Nat)(a:Lg)(s b i:Nat)(h:i<a.length):(scQ δ a s b)[i]? =a[i]?:=by obtain⟨r,c⟩:=ky (scT δ s b) a;grind [scQ,Ib]
theorem uU(δ :Nat->Nat->Nat)(a:Lg)(s:Nat):scQ δ a s 256=ddA a (scR δ s):=rfl
theorem zp(K:KV)(again2:KF){a:AU}(h:OkL a){d:Lg}{e:Li}(z:MQ a.2.2.length d e)(y:i<d.length)
 (v:∀ sn,MQ a.2.2.length (ddA d (scR (dA a) d[i])) sn->again2 (frMt sn.length (inF (ddA d (scR (dA a) d[i]))).length (i+1)) (hMt a.1 a.2.1 a.2.2 sn (inF (ddA d (scR (dA a) d[i]))))):
 LAtZ XMt 1 nMt ⟨.leaf,0⟩ (an (subC pMt bMt)) pMtI (kMt2 K again2) (FJ e.length (inF d).length i 0) (hMt a.1 a.2.1 a.2.2 e (inF d)):=by
 have Q:=h.n1;have P:=z.le;refine LAtZ.stepF lP [] [] [] uQ (by kernel_rfl) (λm G A=>∃ (b:Nat) (sn:Li),G=FJ sn.length (inF (scQ (dA a) d d[i] b)).length i b/\A=hMt a.1 a.2.1 a.2.2 sn (inF (scQ (dA a) d d[i] b))/\MQ a.2.2.length (scQ (dA a) d d[i] b) sn/\b+m=256) ?_ (k:=256) ⟨0,e,rfl,rfl,z,rfl⟩;rintro m G A ⟨b,sn,rfl,rfl,r,U⟩;have o:=uT (dA a) d d[i] b i y;have j:=qL (dA a) d d[i] b;have u:=uU (dA a) d d[i];rw[Hr y]at o;have p:=z.lt _ (Hq y);generalize d[i]=s at*;generalize D:scQ (dA a) d s b=q at*;have O:=r.le;have R:=r.ls;have S:=ao q;refine(Ec _ _ _ a.1 a.2.1 a.2.2 sn (inF q) i b).mpr (Sp.intro (λc=>?_) (λc=>?_));have c:=odt c;have V:b<256:=by omega
 obtain⟨iq,eq⟩:=Hx.1 o;have N:i<(inF q).length:=by omega
 have e1:aa (inV (inF q)) (i:Int)=(s:Nat):=by grind [aA,bD]
 have I:nth (inV (inF q)) i=some (Vi (s:Nat)):=by grind [aL,bD]
 obtain⟨C,B,w⟩:=h.at' p V;have e2:ae (roV a.2.2) ((Int.toNat ((s:Nat):Int):Nat):Int)=inV a.2.2[s]:=by grind [D',bL]
 have H:nth (roV a.2.2) s=some (Vd 1 (inV a.2.2[s])):=cG p;have e3:aa (inV a.2.2[s]) (b:Int)=(dA a s b:Nat):=by rw[aA C,B]
 have F:nth (inV a.2.2[s]) b=some (Vi (dA a s b:Nat)):=by rw[aL C,B]
 have t:dA a s b<sn.length:=by omega
 have Z:az (blV sn) ((Int.toNat ((dA a s b:Nat):Int)+0:Nat):Int)=decide (dA a s b∈q):=by rw[D',HN,bw t,<-r.at' _ w,gD t]
 have E:nth (blV sn) (dA a s b)=some (.bool (decide (dA a s b∈q))):=by rw[dj t,<-r.at' _ w,gD t]
 have M:(inV a.2.2[s]).length=a.2.2[s].length:=af _;have L:=aG a.2.2;have J:=aT sn;rw[e1,e2,e3,Z,M,L,J];simp only[D',HN];refine⟨⟨by omega,by omega⟩,I,⟨by omega,by omega⟩,H,⟨by omega,by omega⟩,F,⟨by omega,by omega⟩,E,Sp.intro (λg=>?_) (λg=>?_)⟩;have g:¬ dA a s b∈q:=by simpa using g
 rw[Hm g]at j;have Y:inV (inF q)++[Vi ((dA a s b:Nat):Int)]=inV (inF (q++[dA a s b])):=by rw[gS];exact(HD (f:=Value.int .i64) (l₁ :=inF q) (l₂ :=[((dA a s b:Nat):Int)])).symm
 have X:(blV sn).set (dA a s b) (.bool true)=blV (sn.set (dA a s b) true):=by unfold blV;rw[IQ]
 rw[Y,X,aF (x:=(b:Int)+1) (by omega) (by omega)];refine⟨⟨by omega,by omega⟩,t,⟨rfl,(af _).symm,by omega,by omega⟩,.dat (ax _),.dat (aq _),au _,ab _,m-1,by omega,b+1,sn.set (dA a s b) true,?_,?_,?_,by omega⟩;rw[j,gS,E',Hz];rfl;rw[j];rfl;rw[j];exact r.add w g;have g:dA a s b∈q:=by simpa using g
 rw[Ht g]at j;rw[aF (x:=(b:Int)+1) (by omega) (by omega)];refine⟨.dat (ax _),.dat (aq _),au _,ab _,m-1,by omega,b+1,sn,?_,?_,?_,by omega⟩;rw[j];rfl;rw[j];rfl;rw[j];exact r;have c:=odf c;obtain rfl:b=256:=by omega
 rw[u]at D;rw[D]at v;rw[aF (x:=(i:Int)+1) (by omega) (by omega)];refine⟨.dat (ax _),.dat (aq _),au _,ab _,?_⟩;exact v sn r
theorem xU(n:Nat)(b:Bool):List.replicate n (Value.bool b)=blV (List.replicate n b):=by unfold blV;rw[Js]
theorem blV_set(l:Li)(i:Nat)(b:Bool):(blV l).set i (.bool b)=blV (l.set i b):=by unfold blV;rw[IQ]
def hMtE(q:Le):AH:=⟨(Nd Lf (some (groI q)) Lf),1⟩
theorem end_mt(Q:Value->AH->Prop)(s:Int)(c:Li)(a:La)(b:Li)(q:Le):endF env ⟨.leaf,0⟩ [] [] [] Q (groS 2 q.length) (hMt s c a b q)=(HF (.agg ⟨inV q⟩)/\Q (groS 0 q.length) (hMtE q)):=by kernel_rfl
theorem Dv{a:AU}(h:OkL a):WalkF env f53 [auV a] ⟨.leaf,0⟩ (groS 0 (inF (rfL (dA a) a.1.toNat)).length) (hMtE (inF (rfL (dA a) a.1.toNat))):=by
 have F:=h.n0;have E:=h.n1;have p:=h.st;have J:=RAL.of h;have o:=λ(K:KV) (I:KF) {v:Lg}{sn0:Li}(h0:MQ a.2.2.length v sn0) {i:Nat}(w:i<v.length)=>zp K I h h0 w;obtain⟨s,b,e⟩:=a;obtain⟨x,rfl⟩:∃ x:Nat,s=x:=⟨s.toNat,by dsimp only at p;omega⟩;dsimp only at*;have B:x<e.length:=by omega
 refine aC lP (d:=1) (ns:=[]) (zs:=[]) (ws:=[]) ((jMt_nf _ (x:Nat) b e).mpr ?_);have z:=aG e;rw[z];simp only[D',HN];rw[xU,blV_set,aT,HZ];refine⟨⟨by omega,by omega,by omega,by omega⟩,⟨by omega,by omega⟩,by omega,.dat (ax _),.dat (aq _),au _,ab [_],?_⟩;refine LAtZ.stepF lP nsMt [] [] slMt (by kernel_rfl) (λm G A=>∃ (i:Nat) (q:Lg) (f:Li),G=frMt f.length (inF q).length i/\A=hMt (x:Nat) b e f (inF q)/\MQ e.length q f/\bfsK (scR (dA ((x:Nat),b,e))) (90001-i) q i=rfL (dA ((x:Nat),b,e)) x/\i<=q.length/\i+m=90001) ?_ (k:=90001) ⟨0,[x],(List.replicate e.length false).set x true,by rw[Hz,HZ];rfl,rfl,MQ.init B,rfl,by simp,rfl⟩;rintro m G A ⟨i,q,f,rfl,rfl,y,t,w,H⟩;generalize rfL (dA ((x:Nat),b,e)) x=L at*;have D:=y.le;have g:=ao q;refine(Eb _ _ (x:Nat) b e f (inF q) i).mpr (Sp.intro (λc=>?_) (λc=>?_));have c:=odt c;rw[g]at c;have j:i<q.length:=by omega
 refine⟨.dat (ax _),.dat (aq _),au _,ab _,o _ _ y j λl u=>?_⟩;obtain⟨r,C⟩:=ky (scR (dA ((x:Nat),b,e)) q[i]) q;refine⟨m-1,by omega,i+1,ddA q (scR (dA ((x:Nat),b,e)) q[i]),l,rfl,rfl,u,?_,by rw[C,E'];omega,by omega⟩;rw[<-t,show 90001-i=(90001-(i+1))+1 by omega];exact(oR (Hr j) _).symm;have c:=odf c;rw[g]at c;rw[oT (by omega)]at t;rw[<-t];refine(end_mt _ (x:Nat) b e f (inF q)).mpr ?_;exact⟨ab _,rfl,rfl⟩
def spMt(P:Value->Prop)(q:Le):Lh->List AObj->Option (Ll×Value×List AObj)
 | [u],[]=>some (some (P u),groS 0 q.length,[groI q])
 |_,_=>none
theorem Fh(q:Le):aQ [groI q]=hMtE q:=by kernel_rfl
theorem mt_tab{a:AU}(h:OkL a):∀ args A p v A',frmR noAr (spMt (λu=>u=auV a) (inF (rfL (dA a) a.1.toNat))) args A=some (p,v,A')->PH p->CallAt env 53 args A v A':=aS ai (fn:=f53) rfl λargs d p v c b e=>by unfold spMt at b;split at b;rename_i u;cases b;obtain rfl:u=auV a:=e;have:=Dv h;rw[<-Fh]at this;exact this;cases b
end
end Go.T9
namespace Go.T9
open Go Go.AM Go.MK Go.Proofs.Tryz
noncomputable section
def hM0(b:Li)(a:La):AH:=⟨(Nd (Nd Lf (some (groR a)) Lf) (some (groB b)) Lf),2⟩
def frMh(n m i:Nat):T Value:=(Nd (Nd (Nd Lf (some (groS 3 n)) Lf) (some (.pointer (some ⟨2,0,none⟩))) (Nd Lf (some (.int .i64 i)) Lf)) none (Nd (Nd Lf (some (groS 4 m)) Lf) none Lf))
def FK(n m i b:Nat):T Value:=(Nd (Nd (Nd Lf (some (groS 3 n)) Lf) (some (.pointer (some ⟨2,0,none⟩))) (Nd Lf (some (.int .i64 i)) Lf)) none (Nd (Nd Lf (some (groS 4 m)) Lf) none (Nd Lf (some (.int .i64 b)) Lf)))
def hMh(s:Int)(b:Li)(a:La)(c:Li)(q:Le):AH:=⟨(Nd (Nd (Nd Lf (some (groB c)) Lf) (some (groR a)) Lf) (some (groB b)) (Nd (Nd Lf (some (groI q)) Lf) (some (.cells [.int .i64 s,groS 0 b.length,groS 1 a.length] 25)) Lf)),5⟩
def jMh(K:KV)(s:Int)(b:Li)(a:La):Prop:=aN XMt 1 f53 [.agg ⟨[.int .i64 s,groS 0 b.length,groS 1 a.length]⟩] (hM0 b a) K
def jMhL(K:KV)(d:KF)(s:Int)(a:Li)(b:La)(c:Li)(q:Le)(i:Nat):Prop:=aI XMt 1 nMt (hM0 a b) bMt pMt (lj K) nsMt [] [] slMt d (frMh c.length q.length i) (hMh s a b c q)
noncomputable def kMh2(c:Li)(b:La)(K:KV)(a:KF):KX:=stepF XMt 1 nMt (hM0 c b) bMt pMt (lj K) nsMt [] [] slMt a
def jMhI(K:KV)(f e:KF)(s:Int)(a:Li)(c:La)(d:Li)(q:Le)(i b:Nat):Prop:=aI XMt 1 nMt (hM0 a c) (an (subC pMt bMt)) pMtI (kMh2 a c K f) [] [] [] uQ e (FK d.length q.length i b) (hMh s a c d q)
end
end Go.T9
namespace Go.T9
open Go Go.AM Go.MK Go.HK Go.Proofs.Tryz
noncomputable section
theorem Ms(K:KV)(s:Int)(b:Li)(a:La):jMh K s b a=((0<=I_ a.length/\I_ a.length<=I_ a.length/\I_ a.length<=281474976710656/\1*List.length a<=281474976710656)/\(0<=s/\s<I_ a.length)/\Int.toNat (I_ (Int.toNat s+0))<List.length (List.replicate a.length O')/\Kt (blV b)/\Kt (roV a)/\Kt (List.set (List.replicate a.length O') (G_ (I_ (Int.toNat s+0))) KG)/\Kt [Vi s]/\LAtZ XMt 1 f53.ntmps (hM0 b a) (ay f53) [1,1,1,1,0,1,0] (finK (SX.E XMt) f53.results.toList K) (No (Ns (Ls 3 0 a.length) (c_ 2 0) (Kx 0)) (H_ (t_ 4 0 1 18446744073709551620))) (K_ (Kw (Lu (List.set (List.replicate a.length O') (G_ (I_ (Int.toNat s+0))) KG) 4) (O_ a)) (Z_ b) (Q_ (l_ [Vi s] 3) [Vi s,LA b.length,g_ 1 0 a.length] 25) 5)):=by kernel_rfl
theorem jMh_nf:type_of%(by have h:=@Ms;revert h;delta b_ c_ d_ g_ l_ m_ t_ G_ H_ I_ K_ O_ Q_ Z_ O' Kt Kw Kx KG Ls Lu LA;exact id):=@Ms
theorem Mt(K:KV)(d:KF)(s:Int)(a:Li)(b:La)(c:Li)(q:Le)(i:Nat):jMhL K d s a b c q i=(Sp (decide ((i:Int)<I_ q.length)) (Kt (blV a)/\Kt (roV b)/\Kt (blV c)/\F_ q/\LAtZ XMt 1 nMt (hM0 a b) (an (subC pMt bMt)) [1,0,0,1,0] (stepF XMt 1 nMt (hM0 a b) bMt pMt (lj K) nsMt [] [] slMt d) (No (Ns (Ls 3 0 c.length) (c_ 2 0) (Kx i)) (No (Ls 4 0 q.length) (Kx 0))) (K_ (Kw (Sg (Z_ c)) (O_ b)) (Z_ a) (Q_ (f_ q) [Vi s,LA a.length,g_ 1 0 b.length] 25) 5)) (K (g_ 4 0 q.length) (K_ (Kw (Sg (Z_ c)) (O_ b)) (Z_ a) (Q_ (f_ q) [Vi s,LA a.length,g_ 1 0 b.length] 25) 5))):=by kernel_rfl
theorem Ed:type_of%(by have h:=@Mt;revert h;delta b_ c_ d_ f_ g_ l_ m_ F_ I_ K_ O_ Q_ Z_ Kt Kw Kx Ls LA;exact id):=@Mt
abbrev KT:=λa b c=>ae (roV a) (s_ (inV b) c)
theorem Mu(K:KV)(f:KF)(e:KF)(s:Int)(d:Li)(a:La)(c:Li)(q:Le)(i b:Nat):jMhI K f e s d a c q i b=(Sp (decide ((b:Int)<256)) (Oa i q/\nth (inV q) i=some (Vi (P_ q i))/\(0<=aa (inV q) i/\aa (inV q) (i:Int)<I_ a.length)/\nth (roV a) (G_ (s_ (inV q) i))=some (Vd 1 (KT a q i))/\(0<=(b:Int)/\(b:Int)<j_ (KT a q i))/\nth (KT a q i) b=some (Vi (aa (KT a q i) b))/\(0<=aa (KT a q i) b/\aa (KT a q i) (b:Int)<I_ c.length)/\nth (blV c) (G_ (s_ (KT a q i) b))=some (Lt (blV c) (s_ (KT a q i) b))/\Sp (! az (blV c) (s_ (KT a q i) b)) ((0<=aa (KT a q i) b/\aa (KT a q i) (b:Int)<I_ c.length)/\Int.toNat (s_ (KT a q i) b)<List.length (blV c)/\(List.all [Vi (aa (KT a q i) b)] cellv=true/\List.length q+0=List.length (inV q)/\List.length q+(1:Nat)<=(70368744177664:Nat)/\(List.length q+1)*(8:Nat)<=(140737488355328:Nat))/\Kt (blV d)/\Kt (roV a)/\Kt (List.set (blV c) (G_ (s_ (KT a q i) b)) KG)/\Kt (inV q++[Vi (aa (KT a q i) b)])/\e (No (Ns (Ls 3 0 c.length) (c_ 2 0) (Kx i)) (No (Ls 4 0 (List.length q+1)) (x_ ((b:Int)+1)))) (K_ (Kw (Lu (List.set (blV c) (G_ (s_ (KT a q i) b)) KG) 4) (O_ a)) (Z_ d) (Q_ (l_ (inV q++[Vi (aa (KT a q i) b)]) 3) [Vi s,LA d.length,g_ 1 0 a.length] 25) 5)) (Kt (blV d)/\Kt (roV a)/\Kt (blV c)/\F_ q/\e (No (Ns (Ls 3 0 c.length) (c_ 2 0) (Kx i)) (No (Ls 4 0 q.length) (x_ ((b:Int)+1)))) (K_ (Kw (Sg (Z_ c)) (O_ a)) (Z_ d) (Q_ (f_ q) [Vi s,LA d.length,g_ 1 0 a.length] 25) 5))) (Kt (blV d)/\Kt (roV a)/\Kt (blV c)/\F_ q/\f (No (Ns (Ls 3 0 c.length) (c_ 2 0) (x_ ((i:Int)+1))) (H_ (g_ 4 0 q.length))) (K_ (Kw (Sg (Z_ c)) (O_ a)) (Z_ d) (Q_ (f_ q) [Vi s,LA d.length,g_ 1 0 a.length] 25) 5))):=by kernel_rfl
theorem Ee:type_of%(by have h:=@Mu;revert h;delta Oa b_ c_ d_ f_ g_ j_ l_ m_ s_ x_ F_ G_ H_ I_ K_ O_ P_ Q_ Z_ Kt Kw Kx KG KT Ls Lt Lu LA;exact id):=@Mu
theorem zr(K:KV)(again2:KF){a:AU}(h:OkL a){d:Lg}{j:Li}(y:MQ a.2.2.length d j){i:Nat}(w:i<d.length)
 (u:∀ sn,MQ a.2.2.length (ddA d (scR (dA a) d[i])) sn->again2 (frMh sn.length (inF (ddA d (scR (dA a) d[i]))).length (i+1)) (hMh a.1 a.2.1 a.2.2 sn (inF (ddA d (scR (dA a) d[i]))))):
 LAtZ XMt 1 nMt (hM0 a.2.1 a.2.2) (an (subC pMt bMt)) pMtI (kMh2 a.2.1 a.2.2 K again2) (FK j.length (inF d).length i 0) (hMh a.1 a.2.1 a.2.2 j (inF d)):=by
 have O:=h.n1;have N:=y.le;refine LAtZ.stepF lP [] [] [] uQ (by kernel_rfl) (λm G A=>∃ (b:Nat) (sn:Li),G=FK sn.length (inF (scQ (dA a) d d[i] b)).length i b/\A=hMh a.1 a.2.1 a.2.2 sn (inF (scQ (dA a) d d[i] b))/\MQ a.2.2.length (scQ (dA a) d d[i] b) sn/\b+m=256) ?_ (k:=256) ⟨0,j,rfl,rfl,y,rfl⟩;rintro m G A ⟨b,sn,rfl,rfl,p,R⟩;have o:=uT (dA a) d d[i] b i w;have n:=qL (dA a) d d[i] b;have t:=uU (dA a) d d[i];rw[Hr w]at o;have e:=y.lt _ (Hq w);generalize d[i]=s at*;generalize C:scQ (dA a) d s b=q at*;have M:=p.le;have P:=p.ls;have Q:=ao q;refine(Ee _ _ _ a.1 a.2.1 a.2.2 sn (inF q) i b).mpr (Sp.intro (λc=>?_) (λc=>?_));have c:=odt c;have S:b<256:=by omega
 obtain⟨iq,eq⟩:=Hx.1 o;have L:i<(inF q).length:=by omega
 have e1:aa (inV (inF q)) (i:Int)=(s:Nat):=by grind [aA,bD]
 have H:nth (inV (inF q)) i=some (Vi (s:Nat)):=by grind [aL,bD]
 obtain⟨B,z,v⟩:=h.at' e S;have Z:ae (roV a.2.2) ((Int.toNat ((s:Nat):Int)+0:Nat):Int)=inV a.2.2[s]:=bL e;have F:nth (roV a.2.2) s=some (Vd 1 (inV a.2.2[s])):=cG e;have Y:aa (inV a.2.2[s]) (b:Int)=(dA a s b:Nat):=by rw[aA B,z]
 have E:nth (inV a.2.2[s]) b=some (Vi (dA a s b:Nat)):=by rw[aL B,z]
 have r:dA a s b<sn.length:=by omega
 have X:az (blV sn) ((Int.toNat ((dA a s b:Nat):Int)+0:Nat):Int)=decide (dA a s b∈q):=by rw[D',HN,bw r,<-p.at' _ v,gD r]
 have D:nth (blV sn) (dA a s b)=some (.bool (decide (dA a s b∈q))):=by rw[dj r,<-p.at' _ v,gD r]
 have J:(inV a.2.2[s]).length=a.2.2[s].length:=af _;have I:=aT sn;rw[e1,Z,Y,X,J,I];simp only[D',HN];refine⟨⟨by omega,by omega⟩,H,⟨by omega,by omega⟩,F,⟨by omega,by omega⟩,E,⟨by omega,by omega⟩,D,Sp.intro (λg=>?_) (λg=>?_)⟩;have g:¬ dA a s b∈q:=by simpa using g
 rw[Hm g]at n;have V:inV (inF q)++[Vi ((dA a s b:Nat):Int)]=inV (inF (q++[dA a s b])):=by rw[gS];exact(HD (f:=Value.int .i64) (l₁ :=inF q) (l₂ :=[((dA a s b:Nat):Int)])).symm
 have U:(blV sn).set (dA a s b) (.bool true)=blV (sn.set (dA a s b) true):=by unfold blV;rw[IQ]
 rw[V,U,aF (x:=(b:Int)+1) (by omega) (by omega)];refine⟨⟨by omega,by omega⟩,r,⟨rfl,(af _).symm,by omega,by omega⟩,au _,aw _,au _,ab _,m-1,by omega,b+1,sn.set (dA a s b) true,?_,?_,?_,by omega⟩;rw[n,gS,E',Hz];rfl;rw[n];rfl;rw[n];exact p.add v g;have g:dA a s b∈q:=by simpa using g
 rw[Ht g]at n;rw[aF (x:=(b:Int)+1) (by omega) (by omega)];refine⟨au _,aw _,au _,ab _,m-1,by omega,b+1,sn,?_,?_,?_,by omega⟩;rw[n];rfl;rw[n];rfl;rw[n];exact p;have c:=odf c;obtain rfl:b=256:=by omega
 rw[t]at C;rw[C]at u;rw[aF (x:=(i:Int)+1) (by omega) (by omega)];refine⟨au _,aw _,au _,ab _,?_⟩;exact u sn p
def hMhE(b:Li)(a:La)(q:Le):AH:=⟨(Nd (Nd Lf (some (groR a)) Lf) (some (groB b)) (Nd Lf (some (groI q)) Lf)),3⟩
theorem end_mh(Q:Value->AH->Prop)(s:Int)(b:Li)(a:La)(c:Li)(q:Le):endF env (hM0 b a) [] [] [] Q (groS 4 q.length) (hMh s b a c q)=(HF (.agg ⟨blV b⟩)/\HF (.agg ⟨roV a⟩)/\HF (.agg ⟨inV q⟩)/\Q (groS 2 q.length) (hMhE b a q)):=by kernel_rfl
theorem DA{a:AU}(h:OkL a):WalkF env f53 [.agg ⟨[.int .i64 a.1,groS 0 a.2.1.length,groS 1 a.2.2.length]⟩] (hM0 a.2.1 a.2.2) (groS 2 (inF (rfL (dA a) a.1.toNat)).length) (hMhE a.2.1 a.2.2 (inF (rfL (dA a) a.1.toNat))):=by
 have D:=h.n0;have C:=h.n1;have o:=h.st;have H:=RAL.of h;have n:=λ(K:KV) (F:KF) {u:Lg}{sn0:Li}(h0:MQ a.2.2.length u sn0) {i:Nat}(v:i<u.length)=>zr K F h h0 v;obtain⟨s,b,e⟩:=a;obtain⟨x,rfl⟩:∃ x:Nat,s=x:=⟨s.toNat,by dsimp only at o;omega⟩;dsimp only at*;have y:x<e.length:=by omega
 refine aC lP (d:=1) (ns:=[]) (zs:=[]) (ws:=[]) ((jMh_nf _ (x:Nat) b e).mpr ?_);simp only[D',HN];rw[xU,blV_set,aT,HZ];refine⟨⟨by omega,by omega,by omega,by omega⟩,⟨by omega,by omega⟩,by omega,au _,aw _,au _,ab [_],?_⟩;refine LAtZ.stepF lP nsMt [] [] slMt (by kernel_rfl) (λm G A=>∃ (i:Nat) (q:Lg) (f:Li),G=frMh f.length (inF q).length i/\A=hMh (x:Nat) b e f (inF q)/\MQ e.length q f/\bfsK (scR (dA ((x:Nat),b,e))) (90001-i) q i=rfL (dA ((x:Nat),b,e)) x/\i<=q.length/\i+m=90001) ?_ (k:=90001) ⟨0,[x],(List.replicate e.length false).set x true,by rw[Hz,HZ];rfl,rfl,MQ.init y,rfl,by simp,rfl⟩;rintro m G A ⟨i,q,f,rfl,rfl,w,p,v,E⟩;generalize rfL (dA ((x:Nat),b,e)) x=L at*;have B:=w.le;have g:=ao q;refine(Ed _ _ (x:Nat) b e f (inF q) i).mpr (Sp.intro (λc=>?_) (λc=>?_));have c:=odt c;rw[g]at c;have j:i<q.length:=by omega
 refine⟨au _,aw _,au _,ab _,n _ _ w j λl t=>?_⟩;obtain⟨r,z⟩:=ky (scR (dA ((x:Nat),b,e)) q[i]) q;refine⟨m-1,by omega,i+1,ddA q (scR (dA ((x:Nat),b,e)) q[i]),l,rfl,rfl,t,?_,by rw[z,E'];omega,by omega⟩;rw[<-p,show 90001-i=(90001-(i+1))+1 by omega];exact(oR (Hr j) _).symm;have c:=odf c;rw[g]at c;rw[oT (by omega)]at p;rw[<-p];refine(end_mh _ (x:Nat) b e f (inF q)).mpr ?_;exact⟨au _,aw _,ab _,rfl,rfl⟩
def spMh(P:Int->Lh->Lh->Prop)(q:Le):Lh->List AObj->Option (Ll×Value×List AObj)
 | [.agg ⟨[.int .i64 s,.slice (some ⟨B1,o1,none⟩) n1 k1,.slice (some ⟨B2,o2,none⟩) n2 k2]⟩],[.gro l1 t1 e1,.gro l2 t2 e2]=>
   bif ((Nat.beq B1 0&&Nat.beq o1 0)&&(Nat.beq B2 1&&Nat.beq o2 0))&&((Nat.beq k1 (unk+3+1)&&Nat.beq k2 (unk+3+1))&&(Nat.beq e1 4&&Nat.beq e2 49))then
    some (some ((t1=[]/\t2=[])/\(n1=l1.length/\n2=l2.length)/\P s l1 l2),groS 2 q.length,[.gro l1 [] e1,.gro l2 [] e2,groI q])else none
 |_,_=>none
theorem wD(a:Li)(nx:La):aQ [groB a,groR nx]=hM0 a nx:=by kernel_rfl
theorem Fi(b:Li)(a:La)(q:Le):aQ [groB b,groR a,groI q]=hMhE b a q:=by kernel_rfl
theorem mh_tab{a:AU}(h:OkL a):∀ args A p v A',frmR noAr (spMh (λs c l2=>s=a.1/\c=blV a.2.1/\l2=roV a.2.2) (inF (rfL (dA a) a.1.toNat))) args A=some (p,v,A')->PH p->CallAt env 53 args A v A':=aS ai (fn:=f53) rfl λargs e p v d b l=>by unfold spMh at b;split at b;rename_i s w n k q u m j o c i t l2 g r;obtain⟨f,b⟩:=bl b;simp only[Hs]at b;obtain⟨rfl,rfl,rfl⟩:=b;simp only[f',Hy]at f;obtain⟨⟨⟨rfl,rfl⟩,rfl,rfl⟩,⟨rfl,rfl⟩,rfl,rfl⟩:=f;obtain⟨⟨rfl,rfl⟩,⟨rfl,rfl⟩,rfl,rfl,rfl⟩:(i=[]/\g=[])/\(k=c.length/\j=l2.length)/\(s=a.1/\c=blV a.2.1/\l2=roV a.2.2):=l;rw[aT,aG];have:=DA h;rw[<-wD,<-Fi]at this;exact this;cases b
noncomputable def nFb:Nat:=Func.ntmps f111
noncomputable def bFb:Code:=ay f111
def elFb:El:={El.of (λ_ _ els i=>some (.int .u8 (aa els i)))with app:=true,gm:=λ_=>true}
def slFb:Lg:=[0,1,3,4,10,11,12,13,17]
def pFb:Lg:=[1,1,1,1,1,0,1,1,1,0,0]
def XFb:SX:=⟨env,[],elFb,λ_=>.autoN [] [] [] slFb⟩
def rH(K:KV):KX:=finK XFb.E (f111.results).toList K
def hU(l:LB):AH:=⟨(Nd Lf (some (.gro (u8v l) [] 5)) Lf),1⟩
def hFb(l:LB)(a b c d:Int):AH:=⟨(Nd (Nd Lf (some (.cells (List.replicate 61 (.int .u8 0)++[.int .u8 a,.int .u8 b,.int .u8 c,.int .u8 d]) 170)) Lf) (some (.gro (u8v l) [] 5)) Lf),2⟩
def frFb(n:Nat)(x:Int)(i:Int):T Value:=(Nd (Nd (Nd Lf (some (.bool false)) (Nd Lf (some (.string (av []))) Lf)) (some (.int .u64 x)) (Nd (Nd (Nd Lf (some (.int .u64 36)) Lf) none Lf) none (Nd Lf (some (.int .i64 i)) Lf))) (some (groS 0 n)) (Nd (Nd Lf (some (.bool true)) (Nd Lf (some (.pointer (some ⟨1,0,none⟩))) Lf)) none (Nd (Nd Lf (some (nilS)) Lf) none Lf)))
def jFb(K:KV)(l:LB)(x:Int):Prop:=aN XFb 2 f111 [groS 0 l.length,.int .u64 x,.int .i64 36,.bool false,.bool true] (hU l) K
def jFb0(K:KV)(e:KF)(l:LB)(x a b c d:Int):Prop:=aI XFb 2 nFb (hU l) bFb pFb (rH K) [] [] [] slFb e (frFb l.length x 65) (hFb l a b c d)
def jFb1(K:KV)(e:KF)(l:LB)(x a b c d:Int):Prop:=aI XFb 2 nFb (hU l) bFb pFb (rH K) [] [] [] slFb e (frFb l.length x 64) (hFb l a b c d)
def jFb2(K:KV)(e:KF)(l:LB)(x a b c d:Int):Prop:=aI XFb 2 nFb (hU l) bFb pFb (rH K) [] [] [] slFb e (frFb l.length x 63) (hFb l a b c d)
def jFb3(K:KV)(e:KF)(l:LB)(x a b c d:Int):Prop:=aI XFb 2 nFb (hU l) bFb pFb (rH K) [] [] [] slFb e (frFb l.length x 62) (hFb l a b c d)
def tb36:ByteArray:=⟨⟨[48,49,50,51,52,53,54,55,56,57,97,98,99,100,101,102,103,104,105,106,107,108,109,110,111,112,113,114,115,116,117,118,119,120,121,122]⟩⟩
def z61(r:Lh):Lh:=List.replicate 61 (Value.int .u8 0)++r
abbrev Z'{E:Type}:=λa b c d (e:List E) f=>Ns (Ns (Ns Lf (Value.bool false) (Sg (Vs (ByteArray.mk ⟨[]⟩)))) (Value.int .u64 a) (No (H_ (Value.int .u64 b)) (Sg (Vi c)))) (b_ (some ⟨d,d,none⟩) (k_ e)) (No (Ns Lf (Value.bool true) (Sg (c_ f d))) (No (Sg p_) Lf))
theorem Mv(K:KV)(l:LB)(x:Int):jFb K l x=(Kt (u8v l)/\LAtZ XFb 2 f111.ntmps (hU l) (ay f111) [1,1,1,1,1,0,1,1,1,0,0] (finK (SX.E XFb) f111.results.toList K) (Z' x 36 65 0 l 1) (AH.mk (Kw (KJ (z61 [A_ 0,A_ 0,A_ 0,A_ 0]) 170) (l_ (u8v l) 5)) 2)):=by kernel_rfl
theorem jFb_nf:type_of%(by have h:=@Mv;revert h;delta b_ c_ d_ k_ l_ m_ p_ A_ H_ Z' Kt Kw KJ;exact id):=@Mv
abbrev LL:=λa=>IntKind.wrap .u64 a
abbrev Od(a:Int):Prop:=(0<=IntKind.wrap .u64 (a-IntKind.wrap .u64 (IntKind.wrap .u64 (Int.tdiv a 36)*36))/\IntKind.wrap .u64 (a-IntKind.wrap .u64 (IntKind.wrap .u64 (Int.tdiv a 36)*36))<36)
theorem Mw(K:KV)(e:KF)(l:LB)(x a b c d:Int):jFb0 K e l x a b c d=(Sp (decide (36<=x)) (NZ 36/\Od x/\((0:Int)<=(64:Int)/\(64:Int)<(65:Int))/\Kt (u8v l)/\e (Z' (LL (Int.tdiv x 36)) 36 64 0 l 1) (AH.mk (Kw (KJ (z61 [A_ a,A_ b,A_ c,A_ (aY tb36 (LL (x-IntKind.wrap .u64 (IntKind.wrap .u64 (Int.tdiv x 36)*36))))]) 170) (l_ (u8v l) 5)) 2)) ((0<=x/\x<36)/\((0:Int)<=(64:Int)/\(64:Int)<(65:Int))/\(List.all [A_ (aY tb36 x)] cellv=true/\List.length l+0=List.length (u8v l)/\List.length l+(1:Nat)<=(70368744177664:Nat)/\(List.length l+1)*(1:Nat)<=(140737488355328:Nat))/\K (KP [g_ 2 0 (List.length l+1),Vs (ByteArray.mk ⟨[]⟩)]) (AH.mk (Ns (KJ (z61 [A_ a,A_ b,A_ c,A_ (aY tb36 x)]) 170) AObj.dead (Sg (AObj.gro (u8v l) [A_ (aY tb36 x)] 5))) 3))):=by kernel_rfl
theorem Ep:type_of%(by have h:=@Mw;revert h;delta Od b_ c_ d_ g_ k_ l_ m_ p_ A_ H_ Z' Kt Kw KJ KP LL;exact id):=@Mw
theorem Mx(K:KV)(e:KF)(l:LB)(x a b c d:Int):jFb1 K e l x a b c d=(Sp (decide (36<=x)) (NZ 36/\Od x/\((0:Int)<=(63:Int)/\(63:Int)<(65:Int))/\Kt (u8v l)/\e (Z' (LL (Int.tdiv x 36)) 36 63 0 l 1) (AH.mk (Kw (KJ (z61 [A_ a,A_ b,A_ (aY tb36 (LL (x-IntKind.wrap .u64 (IntKind.wrap .u64 (Int.tdiv x 36)*36)))),A_ d]) 170) (l_ (u8v l) 5)) 2)) ((0<=x/\x<36)/\((0:Int)<=(63:Int)/\(63:Int)<(65:Int))/\(List.all [A_ (aY tb36 x),A_ d] cellv=true/\List.length l+0=List.length (u8v l)/\List.length l+(2:Nat)<=(70368744177664:Nat)/\(List.length l+2)*(1:Nat)<=(140737488355328:Nat))/\K (KP [g_ 2 0 (List.length l+2),Vs (ByteArray.mk ⟨[]⟩)]) (AH.mk (Ns (KJ (z61 [A_ a,A_ b,A_ (aY tb36 x),A_ d]) 170) AObj.dead (Sg (AObj.gro (u8v l) [A_ (aY tb36 x),A_ d] 5))) 3))):=by kernel_rfl
theorem Eo:type_of%(by have h:=@Mx;revert h;delta Od b_ c_ d_ g_ k_ l_ m_ p_ A_ H_ Z' Kt Kw KJ KP LL;exact id):=@Mx
theorem My(K:KV)(e:KF)(l:LB)(x a b c d:Int):jFb2 K e l x a b c d=(Sp (decide (36<=x)) (NZ 36/\Od x/\((0:Int)<=(62:Int)/\(62:Int)<(65:Int))/\Kt (u8v l)/\e (Z' (LL (Int.tdiv x 36)) 36 62 0 l 1) (AH.mk (Kw (KJ (z61 [A_ a,A_ (aY tb36 (LL (x-IntKind.wrap .u64 (IntKind.wrap .u64 (Int.tdiv x 36)*36)))),A_ c,A_ d]) 170) (l_ (u8v l) 5)) 2)) ((0<=x/\x<36)/\((0:Int)<=(62:Int)/\(62:Int)<(65:Int))/\(List.all [A_ (aY tb36 x),A_ c,A_ d] cellv=true/\List.length l+0=List.length (u8v l)/\List.length l+(3:Nat)<=(70368744177664:Nat)/\(List.length l+3)*(1:Nat)<=(140737488355328:Nat))/\K (KP [g_ 2 0 (List.length l+3),Vs (ByteArray.mk ⟨[]⟩)]) (AH.mk (Ns (KJ (z61 [A_ a,A_ (aY tb36 x),A_ c,A_ d]) 170) AObj.dead (Sg (AObj.gro (u8v l) [A_ (aY tb36 x),A_ c,A_ d] 5))) 3))):=by kernel_rfl
theorem En:type_of%(by have h:=@My;revert h;delta Od b_ c_ d_ g_ k_ l_ m_ p_ A_ H_ Z' Kt Kw KJ KP LL;exact id):=@My
theorem Mz(K:KV)(e:KF)(l:LB)(x a b c d:Int):jFb3 K e l x a b c d=(Sp (decide (36<=x)) (NZ 36/\Od x/\((0:Int)<=(61:Int)/\(61:Int)<(65:Int))/\Kt (u8v l)/\e (Z' (LL (Int.tdiv x 36)) 36 61 0 l 1) (AH.mk (Kw (KJ (z61 [A_ (aY tb36 (LL (x-IntKind.wrap .u64 (IntKind.wrap .u64 (Int.tdiv x 36)*36)))),A_ b,A_ c,A_ d]) 170) (l_ (u8v l) 5)) 2)) ((0<=x/\x<36)/\((0:Int)<=(61:Int)/\(61:Int)<(65:Int))/\(List.all [A_ (aY tb36 x),A_ b,A_ c,A_ d] cellv=true/\List.length l+0=List.length (u8v l)/\List.length l+(4:Nat)<=(70368744177664:Nat)/\(List.length l+4)*(1:Nat)<=(140737488355328:Nat))/\K (KP [g_ 2 0 (List.length l+4),Vs (ByteArray.mk ⟨[]⟩)]) (AH.mk (Ns (KJ (z61 [A_ (aY tb36 x),A_ b,A_ c,A_ d]) 170) AObj.dead (Sg (AObj.gro (u8v l) [A_ (aY tb36 x),A_ b,A_ c,A_ d] 5))) 3))):=by kernel_rfl
theorem Em:type_of%(by have h:=@Mz;revert h;delta Od b_ c_ d_ g_ k_ l_ m_ p_ A_ H_ Z' Kt Kw KJ KP LL;exact id):=@Mz
theorem qz{x:Int}(b:0<=x)(a:x<18446744073709551616):IntKind.wrap .u64 x=x:=by unfold IntKind.wrap;exact Int.emod_eq_of_lt b a
theorem Cq:∀ k:Fin 36,nth tb36.data.toList k.val=some (dg k.val):=by decide
theorem kH{k:Nat}(h:k<36):aY tb36 (k:Int)=((dg k).toNat:Int):=by unfold aY;rw[D',Cq ⟨k,h⟩]
theorem z4(x:Nat)(h:x<1679616):IntKind.wrap .u64 (Int.tdiv (x:Int) 36)=((x/36:Nat):Int):=by grind [Int.tdiv,Int.tdiv_eq_ediv_of_nonneg,qz]
theorem zq(x:Nat)(h:x<1679616):IntKind.wrap .u64 ((x:Int)-IntKind.wrap .u64 (((x/36:Nat):Int)*36))=((x%36:Nat):Int):=by grind [qz]
def I36(X:Nat):Nat->Nat->Int->Int->Int->Int->Prop
 |0,x,_,_,_,_=>x=X
 |1,x,_,_,_,d=>36<=X/\x=X/36/\d=((dg (X%36)).toNat:Int)
 |2,x,_,_,c,d=>36<=X/\36<=X/36/\x=X/36/36/\c=((dg (X/36%36)).toNat:Int)/\d=((dg (X%36)).toNat:Int)
 |3,x,_,b,c,d=>36<=X/\36<=X/36/\36<=X/36/36/\x=X/36/36/36/\b=((dg (X/36/36%36)).toNat:Int)/\c=((dg (X/36%36)).toNat:Int)/\d=((dg (X%36)).toNat:Int)
 |_,_,_,_,_,_=>False
theorem BZ:XFb.Ok:=⟨ai,aD,am,.nil⟩
def hUE(l:LB):AH:=⟨(Nd (Nd Lf (some (.gro (u8v l) [] 5)) Lf) (some (.dead)) Lf),2⟩
def fbV(n:Nat):Value:=.tuple ⟨[groS 1 n,.string (av [])]⟩
theorem end_fb(Q:Value->AH->Prop)(l:LB)(z t:Lh)(n:Nat):endF env (hU l) [] [] [] Q (.tuple ⟨[groS 2 n,.string (av [])]⟩) ⟨(.node (.node .leaf (some (.cells z 170)) .leaf) (some (.dead)) (.node .leaf (some (.gro (u8v l) t 5)) .leaf)),3⟩=(HF (.agg ⟨glue (u8v l) t⟩)/\Q (fbV n) ⟨(.node (.node .leaf (some (.gro (glue (u8v l) t) [] 5)) .leaf) (some (.dead)) .leaf),2⟩):=by kernel_rfl
theorem aX(l:LB):HF (.agg ⟨u8v l⟩):=.agg λx a=>by obtain⟨b,_,rfl⟩:=Hn.1 a;exact HFi _ _
theorem F4(l:LB)(X:Nat)(B:X<1679616)(w:l.length<=100000000):WalkF env f111 [groS 0 l.length,.int .u64 (X:Int),.int .i64 36,.bool false,.bool true] (hU l) (fbV (l++dg36 3 X).length) (hUE (l++dg36 3 X)):=by
 have i:(u8v l).length=l.length:=Hp _;refine aC BZ (d:=2) (ns:=[]) (zs:=[]) (ws:=[]) ((jFb_nf _ l (X:Int)).mpr ⟨aX _,?_⟩);have j:∀ (r:LB),dg36 3 X=r->∀ z,endF env (hU l) [] [] [] (λv1 v=>v1=fbV (l++dg36 3 X).length/\v=hUE (l++dg36 3 X)) (.tuple ⟨[groS 2 (l.length+r.length),.string (av [])]⟩) ⟨(.node (.node .leaf (some (.cells z 170)) .leaf) (some (.dead)) (.node .leaf (some (.gro (u8v l) (u8v r) 5)) .leaf)),3⟩:=λr u z=>by refine(end_fb _ l z (u8v r) _).mpr ?_;rw[bW,<-eW,u];exact⟨aX _,by rw[E'],rfl⟩
 refine LAtZ.stepF BZ [] [] [] slFb (by kernel_rfl) (λm G A=>∃ (k x:Nat) (a b c d:Int),G=frFb l.length (x:Int) ((65-k:Nat):Int)/\A=hFb l a b c d/\I36 X k x a b c d/\k+m=3) ?_ (k:=3) ⟨0,X,0,0,0,0,rfl,rfl,rfl,rfl⟩;rintro m G A ⟨k,x,a,b,c,d,rfl,rfl,g,y⟩;match k,g with
 | 0,g=>
  have h:x=X:=g;have f:x<1679616:=by omega
  have o:=z4 x f;have n:=zq x f;refine(Ep _ _ l (x:Int) a b c d).mpr (Sp.intro (λq=>?_) (λq=>?_));have q:=odt q;have e:36<=x:=by omega
  subst h;have p:x%36<36:=Iy _ (by decide);rw[o,n,kH p];exact⟨(by unfold NZ;decide),⟨by omega,by omega⟩,⟨by omega,by omega⟩,aX _,m-1,by omega,1,_,_,_,_,_,rfl,rfl,⟨e,rfl,rfl⟩,by omega⟩;have q:=odf q;have e:x<36:=by omega
  rw[kH e];subst h;have hd:dg36 3 x=[dg x]:=by unfold dg36;rw[Ht e]
  exact⟨⟨by omega,by omega⟩,⟨by omega,by omega⟩,⟨rfl,by rw[i,HN],by omega,by omega⟩,j _ hd _⟩
 | 1,g=>
  obtain⟨s,h,rfl⟩:=g;have f:x<1679616:=by omega
  have o:=z4 x f;have n:=zq x f;refine(Eo _ _ l (x:Int) a b c _).mpr (Sp.intro (λq=>?_) (λq=>?_));have q:=odt q;have e:36<=x:=by omega
  subst h;have p:X/36%36<36:=Iy _ (by decide);rw[o,n,kH p];exact⟨(by unfold NZ;decide),⟨by omega,by omega⟩,⟨by omega,by omega⟩,aX _,m-1,by omega,2,_,_,_,_,_,rfl,rfl,⟨s,e,rfl,rfl,rfl⟩,by omega⟩;have q:=odf q;have e:x<36:=by omega
  rw[kH e];subst h;have hd:dg36 3 X=[dg (X/36),dg (X%36)]:=by unfold dg36;rw[Hm (by omega)];unfold dg36;rw[Ht (by omega)];rfl
  exact⟨⟨by omega,by omega⟩,⟨by omega,by omega⟩,⟨rfl,by rw[i,HN],by omega,by omega⟩,j _ hd _⟩
 | 2,g=>
  obtain⟨s,t,h,rfl,rfl⟩:=g;have f:x<1679616:=by omega
  have o:=z4 x f;have n:=zq x f;refine(En _ _ l (x:Int) a b _ _).mpr (Sp.intro (λq=>?_) (λq=>?_));have q:=odt q;have e:36<=x:=by omega
  subst h;have p:X/36/36%36<36:=Iy _ (by decide);rw[o,n,kH p];exact⟨(by unfold NZ;decide),⟨by omega,by omega⟩,⟨by omega,by omega⟩,aX _,m-1,by omega,3,_,_,_,_,_,rfl,rfl,⟨s,t,e,rfl,rfl,rfl,rfl⟩,by omega⟩;have q:=odf q;have e:x<36:=by omega
  rw[kH e];subst h;have hd:dg36 3 X=[dg (X/36/36),dg (X/36%36),dg (X%36)]:=by unfold dg36;rw[Hm (by omega)];unfold dg36;rw[Hm (by omega)];unfold dg36;rw[Ht (by omega)];rfl
  exact⟨⟨by omega,by omega⟩,⟨by omega,by omega⟩,⟨rfl,by rw[i,HN],by omega,by omega⟩,j _ hd _⟩
 | 3,g=>
  obtain⟨s,t,C,h,rfl,rfl,rfl⟩:=g;have f:x<1679616:=by omega
  have o:=z4 x f;have n:=zq x f;refine(Em _ _ l (x:Int) a _ _ _).mpr (Sp.intro (λq=>?_) (λq=>?_));grind;have q:=odf q;have e:x<36:=by omega
  rw[kH e];subst h;have hd:dg36 3 X=[dg (X/36/36/36),dg (X/36/36%36),dg (X/36%36),dg (X%36)]:=by unfold dg36;rw[Hm (by omega)];unfold dg36;rw[Hm (by omega)];unfold dg36;rw[Hm (by omega)];unfold dg36;grind
  exact⟨⟨by omega,by omega⟩,⟨by omega,by omega⟩,⟨rfl,by rw[i,HN],by omega,by omega⟩,j _ hd _⟩
 |k+4,g=>exact g.elim
end
end Go.T9
