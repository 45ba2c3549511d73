/- A part of the proof. -/
import Derived.Test.YtegefclhhjbfhaaGreatDoorX4
import Derived.Test.YtegefclhhjbfhaaGreatDoorF2
import Derived.Test.YtegefclhhjbfhaaGreatDoorH
set_option linter.unusedVariables false
set_option linter.unusedSimpArgs false
set_option linter.unusedSectionVars false
set_option maxRecDepth 1000000
namespace Go.T9
open Go Go.AM Go.MK Go.Proofs.Tryz
noncomputable section
def cDel(B B2:Nat):Value:=.func (.func 96) ⟨[]⟩ ⟨[.pointer (some ⟨B,0,none⟩),.pointer (some ⟨B2,0,none⟩)]⟩
def hDl(l o:Le)(fr:Int)(m:Nat):AH:=⟨(Nd (Nd (Nd Lf (some (.cells [groS 4 o.length,groS 5 m] 85)) Lf) (some (.cells [.pointer (some ⟨3,0,none⟩)] 82)) (Nd Lf (some (.dead)) Lf)) (some (groI l)) (Nd (Nd Lf (some (groI o)) Lf) (some (.cells [.int .i64 fr] 3)) Lf)),6⟩
def frId(n i:Nat):T Value:=(Nd (Nd (Nd (Nd Lf (some (.int .i64 n)) Lf) none Lf) (some (cDel 1 2)) Lf) (some (groS 0 n)) (Nd (Nd (Nd Lf (some (.int .i64 i)) Lf) none Lf) none Lf))
def XId:SX:=⟨env,[],elI,λ_=>.autoN [] [] [] [0,1,7,8]⟩
theorem BL:XId.Ok:=⟨ak,aA,an,.nil⟩
def kFinId(K:KV):KX:=finK XId.E (f75.results).toList K
def jId(K:KV)(l o:Le)(fr:Int)(m:Nat):Prop:=bc XId 2 f75 [groS 0 l.length,cDel 1 2] (hDl l o fr m) K
def jIdL(K:KV)(again:KF)(l o:Le)(fr:Int)(m i:Nat):Prop:=bh XId 2 (Func.ntmps f75) (hDl l o fr m) (au f75) [1,0,1,0] (kFinId K) [] [] [] [0,1,7,8] again (frId l.length i) (hDl l o fr m)
def hitD(o:Le)(fr x:Int):Bool:=decide (o.getD x.toNat 0=fr)
def ixD(o:Le)(fr:Int):Le->Nat->Int
 | [],_=> -1
 |x::l,i=>bif hitD o fr x then(i:Int)else ixD o fr l (i+1)
def bD(o:Le)(fr:Int)(l:Le):Le:=l.filter λx=> !hitD o fr x
def spId:Lh->List AObj->Option (Ll×Value×List AObj)
 | [.slice (some ⟨B,b,none⟩) n k,.func (.func g) ⟨[]⟩ ⟨[.pointer (some ⟨B1,b1,none⟩),.pointer (some ⟨B2,b2,none⟩)]⟩],[.gro l tl e,.cells [.pointer (some ⟨B3,b3,none⟩)] e1,.cells [.int .i64 fr] e2,.cells [.slice (some ⟨B4,b4,none⟩) n4 k4,.slice (some ⟨B5,b5,none⟩) n5 k5] e3,.gro o tl4 e4,.dead]=>
  bif (((Nat.beq B 0&&Nat.beq b 0)&&(Nat.beq k (unk+3+1)&&Nat.beq g 96))&&((Nat.beq B1 1&&Nat.beq b1 0)&&(Nat.beq B2 2&&Nat.beq b2 0)))&&((((Nat.beq B3 3&&Nat.beq b3 0)&&(Nat.beq B4 4&&Nat.beq b4 0))&&((Nat.beq B5 5&&Nat.beq b5 0)&&(Nat.beq k4 (unk+3+1)&&Nat.beq k5 (unk+3+1))))&&((Nat.beq e 3&&Nat.beq e1 82)&&(Nat.beq e2 3&&(Nat.beq e3 85&&Nat.beq e4 3))))then
   some (some ((tl=[]/\tl4=[])/\(l=inV (l.map deI)/\n=l.length)/\(o=inV (o.map deI)/\n4=o.length)/\(∀x∈l.map deI,0<=x/\x<o.length)/\l.length<4611686018427387904),
    .int .i64 (ixD (o.map deI) fr (l.map deI) 0),[.gro l [] e,.cells [.pointer (some ⟨B3,b3,none⟩)] e1,.cells [.int .i64 fr] e2,.cells [.slice (some ⟨B4,b4,none⟩) n4 k4,.slice (some ⟨B5,b5,none⟩) n5 k5] e3,.gro o [] e4,.dead])else none
 |_,_=>none
def frDl(n:Nat)(i j:Int):T Value:=(Nd (Nd Lf (some (cDel 1 2)) (Nd Lf (some (.int .i64 i)) Lf)) (some (groS 0 n)) (Nd Lf none (Nd Lf (some (.int .i64 j)) Lf)))
def XDl:SX:=⟨env,[(75,frmQ noAr [5] spId)],elI,λ_=>.autoN [] [] [] [0,1,5,6]⟩
def kFinDl(K:KV):KX:=finK XDl.E (f95.results).toList K
def jDl(K:KV)(l o:Le)(fr:Int)(m:Nat):Prop:=bc XDl 2 f95 [groS 0 l.length,cDel 1 2] (hDl l o fr m) K
def jDlL(K:KV)(again:KF)(l0 l o:Le)(fr:Int)(m i j:Nat):Prop:=bh XDl 2 (Func.ntmps f95) (hDl l0 o fr m) (au f95) [1,1,1,0,1,0] (kFinDl K) [] [] [] [0,1,5,6] again (frDl l.length i j) (hDl l o fr m)
end
end Go.T9
namespace Go.T9
open Go Go.AM Go.MK
noncomputable section
end
end Go.T9
set_option maxRecDepth 100000
namespace Go.T9
open Go.HK
abbrev _root_.Go.JU:=@Eq.trans
section
variable {S:Type}[DecidableEq S]
theorem qz:∀ (l q:List S),addS q l=ddA q l
 | [],q=>rfl
 |x::l,q=>by simp only[addS,ddA];by_cases h:x∈q;rw[Gw h,Gw h];exact qz l q;rw[D' h,D' h];exact qz l _
theorem kp(sc:S->List S):∀ (f:Nat) (q:List S) (i:Nat),exS sc f q i=bfsK sc f q i
 |0,q,i=>rfl
 | f+1,q,i=>by
  simp only[exS,bfsK];cases q[i]? with
  |none=>rfl
  |some s=>simp only[qz];exact kp sc f _ _
theorem Bh:∀ (l:List S) (k:S),idN l k=ixK l k
 | [],k=>rfl
 |x::l,k=>by simp only[idN,ixK,Bh l k]
theorem nW(sc:S->List S)(ks:List S):ba sc ks ks.length=(tabK sc ks).map (λr=>r.map Int.ofNat):=by unfold ba tabK;rw[Hm,Hl];refine Ha λk _=>?_;unfold nums;show _=((sc k).map (ixK ks)).map Int.ofNat;rw[Hl];exact Ha λs _=>by rw[Bh];rfl
def e6(st:S->Nat->S)(ac:S->Bool)(k:S):Lang:=λw=>ac (w.foldl (λs c=>st s (c%256)) k)
end
def dlt(rw:La)(x c:Nat):Nat:=((rw.getD x []).getD c 0).toNat
def acN(ac:Li)(x:Nat):Bool:=ac.getD x false
def clN(C:Le)(c:Nat):Nat:=(C.getD (c%256) 0).toNat
section
variable {S:Type}[DecidableEq S]
theorem qm{st:S->Nat->S}{F:Lg}{P:S->Prop}{N:Nat}{e:S}{ks:List S}(h:EI (λk=>F.map (st k)) P N e ks ks.length){k:S}(b:k∈ks){j c:Nat}(d:F[j]? =some c):
 dlt (ba (λk=>F.map (st k)) ks ks.length) (idN ks k) j=idN ks (st k c)/\st k c∈ks:=by have a:=gP b;refine⟨?_,h.cl (idN ks k) k (lk b) a _ (GA.2 ⟨c,GM d,rfl⟩)⟩;unfold dlt ba;rw[Hm,GF (l:=List.map _ ks),GR,a];simp only[Hx,Ip,nums];rw[GF,GR,GR,d];simp
theorem mP{st:S->Nat->S}{F:Lg}{C:Le}{P:S->Prop}{N:Nat}{e:S}{ks:List S}(h:EI (λk=>F.map (st k)) P N e ks ks.length)(a:∀ c,c<256->∃ c',F[(C.getD c 0).toNat]? =some c'/\∀ k,P k->st k c'=st k c)(ac:S->Bool):
 ∀(w:Lg) {k:S},k∈ks->acN (ks.map ac) (runW (dlt (ba (λk=>F.map (st k)) ks ks.length)) (idN ks k) (w.map (clN C)))=e6 st ac k w
 | [],k,hk=>by show acN (ks.map ac) (idN ks k)=ac k;unfold acN;rw[GF,GR,gP hk];rfl
 |c::w,k,hk=>by obtain⟨c',i,g⟩:=a (c%256) (IN _ (by decide));obtain⟨d,b⟩:=qm h hk i;have j:=g k (h.inp k hk);rw[j]at d b;have f:=mP h a ac w b;show acN (ks.map ac) (runW _ (dlt _ (idN ks k) (clN C c)) (w.map (clN C)))=e6 st ac (st k (c%256)) w;rw[<-f];unfold clN;rw[d]
end
variable {n x0:Nat}{δ:Nat->Nat->Nat}
theorem gu(key:Nat->LB){c:Nat}(h:c≠n):(clsC key (n+1)).getD c 0=(clsC key n).getD c 0:=by show((clsC key n).set n _).getD c 0=_;rw[GF,Hq,D' (λe=>h e.symm),GF]
theorem kz(key:Nat->LB)(h:n<256):(clsC key (n+1)).getD n 0=(idN (clsK key n) (key n):Nat):=by show((clsC key n).set n _).getD n 0=_;rw[GF,Hq,Gw rfl,Gw (by rw[jt];exact h)];rfl
theorem xo(key:Nat->LB):∀ n,n<=256->∀ c,c<n->∃ c',(clsF key n)[((clsC key n).getD c 0).toNat]? =some c'/\key c'=key c
 |0,_,c,h=>by omega
 | n+1,hn,c,hc=>by
  by_cases e:c=n;subst e;rw[kz key (by omega),Gz];by_cases a:key c∈clsK key c;rw[gX a];have:=gP a;unfold clsK at this ⊢;rw[GR]at this;cases d:(clsF key c)[idN ((clsF key c).map key) (key c)]? with
  |none=>rw[d]at this;cases this
  |some y=>rw[d]at this;exact⟨y,rfl,Hk this⟩
  rw[gY a,jn a,gW];exact⟨c,by simp,rfl⟩;rw[gu key e];obtain⟨c',b,f⟩:=xo key n (by omega) c (by omega);refine⟨c',?_,f⟩;by_cases a:key n∈clsK key n;rw[gX a];exact b;rw[gY a,Hn (GE.1 b).1];exact b
theorem iL(key:Nat->LB):∀ n,n<=256->∀ j c,(clsF key n)[j]? =some c->(clsC key n).getD c 0=(j:Nat)
 |0,_,j,c,h=>by simp[clsF]at h
 | n+1,hn,j,c,h=>by
  by_cases a:key n∈clsK key n;rw[gX a]at h;have:=cA key n c (GM h);rw[gu key (by omega)];exact iL key n (by omega) j c h;rw[gY a]at h;by_cases e:j<(clsF key n).length;rw[Hn e]at h;have:=cA key n c (GM h);rw[gu key (by omega)];exact iL key n (by omega) j c h;have b:j<(clsF key n++[n]).length:=(GE.1 h).1;rw[Gx,JL]at b;have d:j=(clsF key n).length:=by omega
  rw[d,Hy (GK _),Ij]at h;have f:n=c:=by simpa using h
  rw[<-f,kz key (by omega),jn a,gW,d]
def alkD(F:Lg)(ac:Li)(rw:La):HS:=da (dlt rw) rw.length F.length (acN ac)
def lsSc(C:Le)(F:Lg)(ac:Li)(rw:La):Nat->Lg:=scB (dlt rw) (clN C) (alkD F ac rw)
def lsO(C:Le)(F:Lg)(ac:Li)(rw:La):Lg:=bfsK (lsSc C F ac rw) 90001 [oN (alkD F ac rw).of 0] 0
def lsT(C:Le)(F:Lg)(ac:Li)(rw:La):List Lg:=tabK (lsSc C F ac rw) (lsO C F ac rw)
def lsA(C:Le)(F:Lg)(ac:Li)(rw:La):Li:=(lsO C F ac rw).map λb=>acN ac (hd (alkD F ac rw) b)
def scR(δ :Nat->Nat->Nat)(x:Nat):Lg:=(List.range 256).map (δ x)
def rfL(δ :Nat->Nat->Nat)(x0:Nat):Lg:=bfsK (scR δ) 90001 [x0] 0
def ac01(acc:Nat->Bool)(x:Nat):Nat:=if acc x then 1 else 0
def rfC(δ :Nat->Nat->Nat)(acc:Nat->Bool)(x0:Nat):Nat->Nat:=(rndM δ 256 (rfL δ x0) 90003 (ac01 acc) 0).1
def rfSc(δ :Nat->Nat->Nat)(acc:Nat->Bool)(x0:Nat):Nat->Lg:=scM δ (rfL δ x0) (rfC δ acc x0)
def rfO(δ :Nat->Nat->Nat)(acc:Nat->Bool)(x0:Nat):Lg:=bfsK (rfSc δ acc x0) 90001 [rfC δ acc x0 x0] 0
def rfT(δ :Nat->Nat->Nat)(acc:Nat->Bool)(x0:Nat):List Lg:=tabK (rfSc δ acc x0) (rfO δ acc x0)
def rfA(δ :Nat->Nat->Nat)(acc:Nat->Bool)(x0:Nat):Li:=(rfO δ acc x0).map λk=>acc (repM (rfL δ x0) (rfC δ acc x0) k)
structure RA (δ :Nat->Nat->Nat) (n x0:Nat):Prop where
 st:x0<n
 ent:∀ x,x<n->∀ c, δ x c<n
 per:∀ x c, δ x c= δ x (c%256)
 n1:n<=90000
theorem RA.ei(h:RA δ n x0):EI (scR δ) (λx=>x<n) 90001 x0 (rfL δ x0) (rfL δ x0).length:=by
 have e:=h.n1;have:=EI.run (sc:=scR δ) (P:=λx=>x<n) (N:=90001) (st:=x0) (λk d s a=>by obtain⟨c,_,rfl⟩:=GA.1 a;exact h.ent k d c) (λl hd b=>by have:=cE n l hd b;omega) 90001 (EI.init h.st) rfl
 rw[kp]at this;exact this
theorem RA.cl(h:RA δ n x0):∀ s∈rfL δ x0,∀b, δ s b∈rfL δ x0:=λs c b=>by rw[h.per s b];obtain⟨i,a⟩:=List.mem_iff_getElem?.1 c;exact h.ei.cl i s (GE.1 a).1 a _ (GA.2 ⟨b%256,Hz.2 (IN _ (by decide)),rfl⟩)
theorem RA.len(h:RA δ n x0):(rfL δ x0).length<=n:=cE n _ h.ei.nd h.ei.inp
theorem RA.mem(h:RA δ n x0):x0∈rfL δ x0:=GM h.ei.hd
theorem qM{δ :Nat->Nat->Nat}(h:∀ x c, δ x c= δ x (c%256)):∀ (w:Lg) (x:Nat),runW δ x (w.map λc=>c%256)=runW δ x w
 | [],x=>rfl
 |c::w,x=>by show runW δ (δ x (c%256)) (w.map λc=>c%256)=runW δ (δ x c) w;rw[qM h w,<-h x c]
theorem ry(h:∀ x c, δ x c= δ x (c%256))(acc:Nat->Bool)(x:Nat):bH δ (λc=>c%256) acc x=bH δ id acc x:=by funext w;unfold bH;rw[qM h,Il]
theorem RA.cls(h:RA δ n x0)(acc:Nat->Bool):∀ s∈rfL δ x0,∀t∈rfL δ x0,(rfC δ acc x0 s=rfC δ acc x0 t↔bH δ id acc s=bH δ id acc t):=λs a t d=>by
 have m:=h.len;have o:=h.n1;obtain⟨i,_⟩:=uM (δ := δ) (nb:=256) (l:=rfL δ x0) (acc:=acc) (λs a b _=>h.cl s a b) 90003 (cl:=ac01 acc) (c:=0) (λs _ t _ e=>by
  have:=e [] (λc g=>by cases g);unfold ac01;have j:acc s=acc t:=this;rw[j]) (λs _ t _ e=>by
  unfold ac01 at e;cases a:acc s<;>cases d:acc t<;>simp[a,d]at e ⊢) (.inr ⟨rfl,Jx h.mem⟩) (by omega)
 unfold rfC;rw[i s a t d,<-jk (cls:=λc=>c%256) (λc=>IN _ (by decide)) (λk f=>⟨k,IR f⟩),ry h.per,ry h.per]
section
variable {S:Type}[DecidableEq S]
theorem pT:∀ {l:List S},l.Nodup->∀ (i:Nat) (h:i<l.length),idN l l[i]=i
 | [],_,i,h=>by simp at h
 |x::l,hn,0,h=>by simp[idN]
 | x::l,hn,i+1,h=>by
  rw[List.nodup_cons]at hn;have b:i<l.length:=by simpa using h
  have a:¬ x=l[i]:=λe=>hn.1 (e▸GH b);show idN (x::l) l[i]=i+1;simp only[idN,D' a,pT hn.2 i b]
structure GD (st:S->Nat->S) (P:S->Prop) (C:Le) (F:Lg) (s0:S) (ks:List S):Prop where
 ei:EI (λk=>F.map (st k)) P 90001 s0 ks ks.length
 cl:∀ c,c<256->∃ c',F[(C.getD c 0).toNat]? =some c'/\∀ k,P k->st k c'=st k c
 sur:∀ k,k<F.length->∃ c,clN C c=k
theorem GD.of{st:S->Nat->S}{P:S->Prop}{key:Nat->LB}{f:S}{ks:List S}(C:Le)(F:Lg)(h:C=clsC key 256)(d:F=clsF key 256)(n:EI (λk=>F.map (st k)) P 90001 f ks ks.length)(a:∀ k,P k->∀ c c',c<256->c'<256->key c'=key c->st k c'=st k c):GD st P C F f ks:=by have j:=xo key 256 (GK _);have i:=iL key 256 (GK _);have e:=cA key 256;rw[<-h,<-d]at j i;rw[<-d]at e;clear h d;refine⟨n,λc g=>?_,λk a=>?_⟩;obtain⟨c',l,o⟩:=j c g;exact⟨c',l,λk m=>a k m c c' g (e c' (GM l)) o⟩;have b:=e _ (GH a);refine⟨F[k],?_⟩;unfold clN;rw[IR b,i k _ (E' a),Gz]
variable {st:S->Nat->S}{P:S->Prop}{C:Le}{F:Lg}{s0:S}{ks:List S}{ac:S->Bool}
theorem GD.mem0(h:GD st P C F s0 ks):s0∈ks/\idN ks s0=0:=by
 have a:=h.ei.hd;refine⟨GM a,?_⟩;cases ks with
 |nil=>simp at a
 |cons x ks=>simp at a;subst a;simp[idN]
theorem GD.rlen(ks:List S):(ba (λk=>F.map (st k)) ks ks.length).length=ks.length:=by unfold ba;rw[Hm,GB]
theorem GD.dlt(h:GD st P C F s0 ks):∀ x,x<ks.length->∀ c,c<F.length->Go.T9.dlt (ba (λk=>F.map (st k)) ks ks.length) x c<ks.length:=λx a c d=>by obtain⟨b,e⟩:=qm h.ei (GH a) (E' d);rw[pT h.ei.nd x a]at b;rw[b];exact lk e
theorem GD.clN(h:GD st P C F s0 ks):∀ c,Go.T9.clN C c<F.length:=λc=>by obtain⟨b,a,_⟩:=h.cl (c%256) (IN _ (by decide));exact(GE.1 a).1
theorem j9(δ :Nat->Nat->Nat)(cls:Nat->Nat)(acc:Nat->Bool)(x:Nat):bH δ cls acc x []=acc x:=rfl
theorem vI(h:GD st P C F s0 ks){δ :Nat->Nat->Nat}{n x0:Nat}{acc:Nat->Bool}(i:RA δ n x0)(g:Bool->Bool)(D:∀ x y,g x=g y->x=y)(B:(λw=>g (bH δ id acc x0 w))=e6 st ac s0):
 lsT C F (ks.map ac) (ba (λk=>F.map (st k)) ks ks.length)=rfT δ acc x0/\lsA C F (ks.map ac) (ba (λk=>F.map (st k)) ks ks.length)=(rfA δ acc x0).map g:=by
 obtain⟨r,z⟩:=h.mem0;have o:0<ks.length:=Iv r;have m:=GD.rlen (st:=st) (F:=F) ks;have j:=h.dlt;have d:=mP h.ei h.cl ac;generalize A:ba (λk=>F.map (st k)) ks ks.length=rw at*;obtain⟨f,t⟩:=jy (δ :=Go.T9.dlt rw) (n:=ks.length) (nc:=F.length) (acc:=acN (ks.map ac)) o j;have q:alkD F (ks.map ac) rw=da (Go.T9.dlt rw) ks.length F.length (acN (ks.map ac)):=by unfold alkD;rw[m]
 obtain⟨U,b2,R⟩:=lN (cls:=Go.T9.clN C) j h.clN h.sur f t;obtain⟨Q,O,M⟩:=kA (δ := δ) (acc:=acc) (l:=rfL δ x0) (cl:=rfC δ acc x0) i.cl (i.cls acc);have c:=f.lt 0 o;obtain⟨K,J⟩:=kP f c;obtain⟨v,u⟩:=fP (l:=rfL δ x0) (cl:=rfC δ acc x0) ⟨x0,i.mem,rfl⟩;unfold lsT lsA lsO lsSc rfT rfA rfO rfSc;rw[q];generalize V:da (Go.T9.dlt rw) ks.length F.length (acN (ks.map ac))=s at*;have E:bH (Go.T9.dlt rw) (Go.T9.clN C) (acN (ks.map ac)) (hd s (oN s.of 0))=λw=>g (bH δ id acc (repM (rfL δ x0) (rfC δ acc x0) (rfC δ acc x0 x0)) w):=by rw[(jk h.clN h.sur).2 ((t _ K 0 o).1 J),(i.cls acc _ v x0 i.mem).1 u,B];funext w;have:=d w r;rw[z]at this;exact this
 generalize 90001=N;obtain⟨I,H⟩:=yX (P1:=λb=>b<s.mem.length) (P2:=λk=>∃ s∈rfL δ x0,rfC δ acc x0 s=k) (l2:=λk w=>g (bH δ id acc (repM (rfL δ x0) (rfC δ acc x0) k) w)) U b2 R c (λa b G p e=>Q a b G p (funext λw=>D _ _ (congrFun e w))) (λb p=>by have:=HD (List.map λ(L:Lang) w=>g (L w)) (O b p);rw[Hl]at this;refine JU this ?_;unfold scL;rw[Hl];rfl) M ⟨x0,i.mem,rfl⟩ E N
 refine⟨I,?_⟩;have:=HD (List.map λL:Lang=>L []) H;rw[Hl,Hl]at this;rw[Hl];refine JU ?_ (JU this ?_);exact Ha λb _=>(j9 (Go.T9.dlt rw) (Go.T9.clN C) (acN (ks.map ac)) (hd s b)).symm;exact Ha λk _=>HD g (j9 δ id acc (repM (rfL δ x0) (rfC δ acc x0) k))
theorem lg(h:GD st P C F s0 ks){δ :Nat->Nat->Nat}{n x0:Nat}{acc:Nat->Bool}(b:RA δ n x0)(c:bH δ id acc x0=e6 st ac s0):
 lsT C F (ks.map ac) (ba (λk=>F.map (st k)) ks ks.length)=rfT δ acc x0/\lsA C F (ks.map ac) (ba (λk=>F.map (st k)) ks ks.length)=rfA δ acc x0:=by obtain⟨d,a⟩:=vI (ac:=ac) h b id (λ_ _ e=>e) c;rw[Il]at a;exact⟨d,a⟩
end
section
variable {S:Type}[DecidableEq S]
theorem wV{sc:S->List S}{Q:S->Prop}(b:∀ k,Q k->∀ s∈sc k,Q s):∀ (f:Nat) (q:List S) (i:Nat),(∀x∈q,Q x)->∀ x∈exS sc f q i,Q x
 |0,q,i,hq=>hq
 | f+1,q,i,hq=>by
  simp only[exS];cases h:q[i]? with
  |none=>exact hq
  |some s=>refine wV b f _ _ λx c=>?_;rcases cM c with a|a;exact hq x a;exact b s (hq s (GM h)) x a
variable {st:S->Nat->S}{P:S->Prop}{C:Le}{F:Lg}{s0:S}{ks:List S}{ac:S->Bool}
theorem GD.ks_eq(h:GD st P C F s0 ks):ks=exS (λk=>F.map (st k)) 90001 [s0] 0:=by
 rw[<-h.ei.fin];generalize 90001-ks.length=m;cases m with
 |zero=>rfl
 |succ m=>show _=(match ks[ks.length]? with|none=>ks|some s=>exS (λk=>F.map (st k)) m (addS ks (F.map (st s))) (ks.length+1));rw[Hw (GK _)]
theorem Dk(h:GD st P C F s0 ks)(hP:ks.length<=90000):(lsO C F (ks.map ac) (ba (λk=>F.map (st k)) ks ks.length)).length=(alkD F (ks.map ac) (ba (λk=>F.map (st k)) ks ks.length)).mem.length:=by
 obtain⟨H,K⟩:=h.mem0;have I:0<ks.length:=Iv H;have v:=GD.rlen (st:=st) (F:=F) ks;have f:=h.dlt;have A:∀ {k:S},k∈ks->∀ {j c:Nat},F[j]? =some c->Go.T9.dlt (ba (λk=>F.map (st k)) ks ks.length) (idN ks k) j=idN ks (st k c)/\st k c∈ks:=λp _ _ u=>qm h.ei p u;generalize M:ba (λk=>F.map (st k)) ks ks.length=rw at*;obtain⟨d,E⟩:=jy (δ :=Go.T9.dlt rw) (n:=ks.length) (nc:=F.length) (acc:=acN (ks.map ac)) I f;have D:alkD F (ks.map ac) rw=da (Go.T9.dlt rw) ks.length F.length (acN (ks.map ac)):=by unfold alkD;rw[v]
 obtain⟨b1,b2,b3⟩:=lN (cls:=Go.T9.clN C) f h.clN h.sur d E;unfold lsO lsSc;rw[D];generalize hs:da (Go.T9.dlt rw) ks.length F.length (acN (ks.map ac))=s at*;have V:=d.le;have a:=EI.run (sc:=scB (Go.T9.dlt rw) (Go.T9.clN C) s) (P:=λb=>b<s.mem.length) (N:=90001) (st:=oN s.of 0) b3 (λl hd R=>by have:=cE s.mem.length l hd R;omega) 90001 (EI.init (d.lt 0 I)) rfl;rw[kp]at a;have r:=h.ks_eq;generalize 90001=N at a r ⊢;generalize bfsK (scB (Go.T9.dlt rw) (Go.T9.clN C) s) N [oN s.of 0] 0=o at*;have w:∀ k∈ks,k∈ks/\oN s.of (idN ks k)∈o:=by
  have O:=wV (sc:=λk=>F.map (st k)) (Q:=λk=>k∈ks/\oN s.of (idN ks k)∈o) (λk ⟨p,U⟩ x q=>by
   obtain⟨c,X,rfl⟩:=GA.1 q;obtain⟨j,u⟩:=List.mem_iff_getElem?.1 X;obtain⟨e1,e2⟩:=A p u;refine⟨e2,?_⟩;have e:=(GE.1 u).1;obtain⟨y,L⟩:=h.sur j e;obtain⟨i,J⟩:=List.mem_iff_getElem?.1 U;have g:=lk p;have B:=d.lt _ g;obtain⟨t,G⟩:=kP d B;have z:oN s.of (Go.T9.dlt rw (hd s (oN s.of (idN ks k))) j)=oN s.of (Go.T9.dlt rw (idN ks k) j):=(E _ (f _ t j e) _ (f _ g j e)).2 (((E _ t _ g).1 G).next e);have:=a.cl i _ (GE.1 J).1 J (oN s.of (Go.T9.dlt rw (hd s (oN s.of (idN ks k))) j)) (by
    unfold scB;refine GA.2 ⟨y%256,Hz.2 (IN _ (by decide)),?_⟩;have:Go.T9.clN C (y%256)=j:=by rw[<-L];unfold Go.T9.clN;rw[Nat.mod_mod]
    rw[this])
   rw[z,e1]at this;exact this) N [s0] 0 (λx q=>by
   rw[Hi.1 q];exact⟨H,by rw[K];exact GM a.hd⟩)
  intro k p;exact O k (r▸p)
 have Z:=cW (l:=o) (m:=List.range s.mem.length) a.nd λx q=>Hz.2 (a.inp x q);have Y:=cW (l:=List.range s.mem.length) (m:=o) List.nodup_range λb B=>by obtain⟨t,G⟩:=kP d (Hz.1 B);have:=(w _ (GH t)).2;rw[pT h.ei.nd _ t,G]at this;exact this
 rw[HL]at Z Y;omega
end
def dA(a:AU)(x c:Nat):Nat:=((a.2.2.getD x []).getD (c%256) 0).toNat
theorem Bv(a:AU)(x c:Nat):dA a x c=dA a x (c%256):=by unfold dA;rw[Nat.mod_mod]
def bK(a:AU):Lang:=bH (dA a) id (acN a.2.1) a.1.toNat
theorem xj{a:AU}{q:Int}(c:Nat):dA a q.toNat c=(stp a.2.2 q (c%256)).toNat:=rfl
theorem RA.of{a:AU}(h:OkA a):RA (dA a) a.2.2.length a.1.toNat:=by have g:=h.st;have f:=h.n1;refine⟨by omega,λx d c=>?_,Bv a,by omega⟩;have:=eM h (q:=(x:Int)) (by omega) (by omega) (b:=c%256) (IN _ (by decide));have e:dA a x c=(stp a.2.2 (x:Int) (c%256)).toNat:=rfl;rw[e];omega
theorem AZ{a:AU}(h:OkA a):∀ (w:Lg) (q:Int),inA a q->e6 (stS a) (acS a) (q,0) w=acN a.2.1 (runW (dA a) q.toNat w)
 | [],q,hq=>rfl
 |c::w,q,hq=>by have d:=eM h hq.1 hq.2 (b:=c%256) (IN _ (by decide));have:=AZ h w (stp a.2.2 q (c%256)) d;rw[<-xj]at this;exact this
theorem zq{a:AU}(h:OkA a):bK a=e6 (stS a) (acS a) (a.1,0):=by funext w;rw[AZ h w a.1 h.st];unfold bK bH;rw[Il]
theorem GD.single{a:AU}(h:OkA a):GD (stS a) (inS a) (caS a) (fsS a) (a.1,0) (reS (fsS a) a):=
 by
 have b:fsS a=clsF (keyS a.2.2) 256:=by unfold fsS;exact Eq.refl _
 have g:caS a=clsC (keyS a.2.2) 256:=by unfold caS;exact Eq.refl _
 have d:∀ c∈fsS a,c<256:=by rw[b];exact λc f=>cA _ _ _ f
 have i:=ei_S h d;generalize fsS a=F at*;generalize caS a=C at*;exact .of (key:=keyS a.2.2) C F g b i λk _ c j _ _ e=>Cr h k e
end Go.T9
set_option maxRecDepth 1000000
set_option maxHeartbeats 400000
namespace Go.T9
open Go Go.AM Go.MK Go.HK
noncomputable section
abbrev _root_.Go.JV:=@List.nodup_nil
variable {n x:Nat}
structure OkL (a:AU):Prop where
 n0:0<a.2.2.length
 n1:a.2.2.length<=90000
 acc:a.2.1.length=a.2.2.length
 row:∀ r∈a.2.2,r.length=256
 st:0<=a.1/\a.1<a.2.2.length
 ent:∀ r∈a.2.2,∀x∈r,0<=x/\x<a.2.2.length
theorem OkL.at'{a:AU}(h:OkL a){c:Nat}(d:x<a.2.2.length)(f:c<256):∃ j:c<a.2.2[x].length,a.2.2[x][c]=(dA a x c:Int)/\dA a x c<a.2.2.length:=by
 have g:=h.row _ (GH d);have b:c<a.2.2[x].length:=by omega
 have i:=h.ent _ (GH d) _ (GH b);have e:dA a x c=(a.2.2[x][c]).toNat:=by unfold dA;rw[IR f,gD d,gD b]
 exact⟨b,by omega,by omega⟩
theorem RAL.of{a:AU}(h:OkL a):RA (dA a) a.2.2.length a.1.toNat:=by
 have g:=h.st;have f:=h.n1;refine⟨by omega,λx b c=>?_,λx c=>by unfold dA;rw[Nat.mod_mod],by omega⟩;have:=(h.at' b (IN c (by decide:0<256)));obtain⟨_,_,d⟩:=this;have e:dA a x c=dA a x (c%256):=by unfold dA;rw[Nat.mod_mod]
 rw[e];exact d
structure MQ (n:Nat) (q:Lg) (sn:Li):Prop where
 ls:sn.length=n
 at':∀ x,x<n->sn.getD x false=decide (x∈q)
 nd:q.Nodup
 lt:∀ x∈q,x<n
theorem MQ.add{q:Lg}{sn:Li}(h:MQ n q sn)(k:x<n)(g:¬ x∈q):MQ n (q++[x]) (sn.set x true):=by
 refine⟨by rw[GP];exact h.ls,λy c=>?_,Iw.2 ⟨h.nd,by simp,λa i b d=>by
  have d:b=x:=by simpa using d
  subst d;intro e;subst e;exact g i⟩,λy c=>?_⟩
 have l:=h.ls;rw[GF,Hq];by_cases e:x=y;subst e;rw[Gw rfl,Gw (by omega)];simp;rw[D' e,<-GF,h.at' y c];have j:¬ y=x:=λh=>e h.symm;simp[j];rcases GW.1 c with f|f;exact h.lt y f;have:y=x:=by simpa using f
 omega
theorem MQ.init(b:x<n):MQ n [x] ((List.replicate n false).set x true):=by have c:MQ n [] (List.replicate n false):=⟨HA,λy a=>by rw[GF,I4,Gw a];simp,JV,λy a=>by cases a⟩;exact c.add b (by simp)
theorem MQ.le{q:Lg}{sn:Li}(h:MQ n q sn):q.length<=n:=by have:=cW h.nd (m:=List.range n) λx a=>Hz.2 (h.lt x a);rw[HL]at this;exact this
theorem blV_set(l:Li)(i:Nat)(b:Bool):(blV l).set i (.bool b)=blV (l.set i b):=by unfold blV;rw[Iu]
end
end Go.T9
namespace Go.T9
open Go Go.AM Go.MK
noncomputable section
end
end Go.T9
namespace Go.T9
open Go Go.AM Go.MK Go.HK
noncomputable section
def hU(l:LB):AH:=⟨(Nd Lf (some (.gro (u8v l) [] 5)) Lf),1⟩
theorem u64_in{x:Int}(b:0<=x)(a:x<18446744073709551616):IntKind.wrap .u64 x=x:=by unfold IntKind.wrap;exact Int.emod_eq_of_lt b a
def hUE(l:LB):AH:=⟨(Nd (Nd Lf (some (.gro (u8v l) [] 5)) Lf) (some (.dead)) Lf),2⟩
theorem be(l:LB):HF (.agg ⟨u8v l⟩):=.agg λx a=>by obtain⟨b,_,rfl⟩:=GA.1 a;exact HFi _ _
end
end Go.T9
