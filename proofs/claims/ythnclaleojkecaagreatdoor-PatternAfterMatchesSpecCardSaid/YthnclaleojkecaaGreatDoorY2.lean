/- A part of the proof. -/
import Derived.Test.YthnclaleojkecaaGreatDoorY1
import Derived.Test.YthnclaleojkecaaGreatDoorX2
import Derived.Test.YthnclaleojkecaaGreatDoorX4
import Derived.Test.YthnclaleojkecaaGreatDoorX1
import Derived.Test.YthnclaleojkecaaGreatDoorX3
set_option linter.unusedVariables false
set_option linter.unusedSimpArgs false
set_option maxRecDepth 1000000
namespace Go.T9
open Go Go.AM Go.MK Go.HK Go.Proofs.Tryz
noncomputable section
def dU8:Value->UInt8
 | .int .u8 x=>UInt8.ofNat x.toNat
 |_=>0
variable {l:Lg}{k n:Nat}{f:Nat->Nat}
theorem jo(l:LB):(u8v l).map dU8=l:=by
 unfold u8v;rw[Hp];conv=>rhs;rw[<-HZ l]
 refine GT λx _=>?_;show UInt8.ofNat ((x.toNat:Int).toNat)=x;rw[Gs];simp
def fbL(l:Lh)(x:Int):LB:=l.map dU8++dg36 3 x.toNat
theorem Bg(l:LB):aW [.gro (u8v l) [] 5]=hU l:=by kernel_rfl
theorem wa(l:LB):aW [.dead,.gro (u8v l) [] 5]=hUE l:=by kernel_rfl
def spFb:Lh->List AObj->Option (Ll×Value×List AObj)
 | [.slice (some ⟨B,o,none⟩) n k,.int .u64 x,.int .i64 b,.bool f,.bool g],[.gro l t e]=>
   bif ((Nat.beq B 0&&Nat.beq o 0)&&(Nat.beq k (unk+3+1)&&Nat.beq e 5))&&((!f&&g)&&decide (b=36))then
    some (some (t=[]/\l=u8v (l.map dU8)/\n=l.length/\(0<=x/\x<1679616)/\l.length<=100000000),fbV (fbL l x).length,[.dead,.gro (u8v (fbL l x)) [] e])else none
 |_,_=>none
theorem fb_tab:∀ args A p v A',frmR noAr spFb args A=some (p,v,A')->PH p->CallAt env 92 args A v A':=be am (fn:=f92) rfl λargs c p v a h i=>by unfold spFb at h;split at h;rename_i B o n k x b f g l t e;obtain⟨d,h⟩:=bw h;simp only[Gx]at h;obtain⟨rfl,rfl,rfl⟩:=h;simp only[f',GG,GK,Io]at d;obtain⟨⟨⟨rfl,rfl⟩,rfl,rfl⟩,⟨rfl,rfl⟩,rfl⟩:=d;obtain⟨rfl,m,rfl,⟨s,r⟩,q⟩:t=[]/\l=u8v (l.map dU8)/\n=l.length/\(0<=x/\x<1679616)/\l.length<=100000000:=i;have j:(l.map dU8).length=l.length:=Gu _;unfold fbL;generalize l.map dU8=L at*;subst m;obtain⟨y,rfl⟩:∃ y:Nat,x=y:=⟨x.toNat,by omega⟩;rw[Gs];have:=Fe L y (by omega) (by omega);rw[<-Bg,<-wa]at this;rw[<-j];exact this;cases h
noncomputable def nKt:Nat:=Func.ntmps f43
noncomputable def bKt:Code:=au f43
def elKt:El:={El.of (λ_ _ els i=>some (.int .i64 (aa els i)))with app:=true,gm:=λ_=>true}
def nsKt:List (NPos×TypeId×Nat):=[(.slot 3,5,1)]
def XKt:SX:=⟨env,[(92,frmR noAr spFb)],elKt,λ_=>.autoN nsKt [] [] [0,3,4]⟩
def kFinKt(K:KV):KX:=finK XKt.E (f43.results).toList K
def hKt0(r:Le):AH:=⟨(Nd Lf (some (groI r)) Lf),1⟩
def hKt(r:Le)(l:LB):AH:=⟨(Nd (Nd Lf (some (.gro (u8v l) [] 5)) Lf) (some (groI r)) Lf),2⟩
def frKt(n m i:Nat):T Value:=(Nd (Nd (Nd Lf (some (groS 1 m)) Lf) none Lf) (some (groS 0 n)) (Nd (Nd Lf (some (.int .i64 i)) Lf) none Lf))
def jKt(K:KV)(r:Le):Prop:=bh XKt 5 f43 [groS 0 r.length] (hKt0 r) K
def jKtL(K:KV)(again:KF)(r:Le)(l:LB)(i:Nat):Prop:=aI XKt 5 nKt (hKt0 r) bKt [1,1,0,1,0] (kFinKt K) nsKt [] [] [0,3,4] again (frKt r.length l.length i) (hKt r l)
set_option maxHeartbeats 400000
theorem jKt_nf(K:KV)(r:Le):jKt K r=(HF (Value.agg (Array.mk (inV r)))/\HF (Value.agg ⟨[]⟩)/\LAtZ XKt 5 f43.ntmps (hKt0 r) (au f43) [1,1,0,1,0] (finK (SX.E XKt) f43.results.toList K) (Ns (No (Sg (Value.slice (some ⟨1,0,none⟩) 0 18446744073709551620)) Lf) (Value.slice (some ⟨0,0,none⟩) (List.length r) 18446744073709551620) (No (Sg (Vi 0)) Lf)) (AH.mk (Ns (Sg (AObj.gro [] [] 5)) (AObj.gro (inV r) [] 3) Lf) 2)):=by kernel_rfl
abbrev G_:=λa=>List.map dU8 (u8v a)
abbrev JW:=λa b c=>fbL (u8v a++[w_ 45]) (IntKind.wrap .u64 (0-IntKind.wrap .u64 (P_ b c)))
theorem Mn(K:KV)(again:KF)(r:Le)(l:LB)(i:Nat):jKtL K again r l i=(Sp (decide ((i:Int)<B_ r.length)) ((0<=(i:Int)/\(i:Int)<B_ r.length)/\nth (inV r) i=some (Vi (P_ r i))/\Sp (decide (aa (inV r) (i:Int)<0)) ((List.all [w_ 45] cellv=true/\List.length l+0=List.length (u8v l)/\List.length l+(1:Nat)<=(70368744177664:Nat)/\(List.length l+1)*(1:Nat)<=(140737488355328:Nat))/\HFs [f_ (u8v l++[w_ 45]),f_ (u8v (JW l r i))] (PH (Prod.fst (some (([]:Lh)=[]/\u8v l++[w_ 45]=u8v (List.map dU8 (u8v l++[w_ 45]))/\List.length l+1=List.length (u8v l++[w_ 45])/\(0<=IntKind.wrap .u64 (0-IntKind.wrap .u64 (P_ r i))/\IntKind.wrap .u64 (0-IntKind.wrap .u64 (P_ r i))<1679616)/\List.length (u8v l++[w_ 45])<=100000000),Ki [g_ 1 0 (i_ (JW l r i)),Vs (ByteArray.mk ⟨[]⟩)],[AObj.dead,k_ (u8v (JW l r i)) 5])))/\(List.all [w_ 32] cellv=true/\List.length (JW l r i)+0=List.length (u8v (JW l r i))/\List.length (JW l r i)+(1:Nat)<=(70368744177664:Nat)/\(List.length (JW l r i)+1)*(1:Nat)<=(140737488355328:Nat))/\I_ r/\J0 (u8v (JW l r i)++[w_ 32])/\again (Ns (F_ (g_ 1 0 (List.length (JW l r i)+1))) (Kl r.length) (No (v_ ((i:Int)+1)) Lf)) (AH.mk (Kd (KG (u8v (JW l r i)++[w_ 32]) 5) (e_ r)) 2)) (HFs [f_ (u8v l),f_ (u8v (fbL (u8v l) (Kt (P_ r i))))] (PH (Prod.fst (some (([]:Lh)=[]/\u8v l=u8v (G_ l)/\List.length l=List.length (u8v l)/\(0<=IntKind.wrap .u64 (P_ r i)/\IntKind.wrap .u64 (P_ r i)<1679616)/\List.length (u8v l)<=100000000),Ki [g_ 1 0 (i_ (fbL (u8v l) (Kt (P_ r i)))),Vs (ByteArray.mk ⟨[]⟩)],[AObj.dead,k_ (u8v (fbL (u8v l) (Kt (P_ r i)))) 5])))/\(List.all [w_ 32] cellv=true/\List.length (fbL (u8v l) (Kt (P_ r i)))+0=List.length (u8v (fbL (u8v l) (Kt (P_ r i))))/\List.length (fbL (u8v l) (Kt (P_ r i)))+(1:Nat)<=(70368744177664:Nat)/\(List.length (fbL (u8v l) (Kt (P_ r i)))+1)*(1:Nat)<=(140737488355328:Nat))/\I_ r/\J0 (u8v (fbL (u8v l) (Kt (P_ r i)))++[w_ 32])/\again (Ns (F_ (g_ 1 0 (List.length (fbL (u8v l) (Kt (P_ r i)))+1))) (Kl r.length) (No (v_ ((i:Int)+1)) Lf)) (AH.mk (Kd (KG (u8v (fbL (u8v l) (Kt (P_ r i)))++[w_ 32]) 5) (e_ r)) 2))) (IsB (u8v l) 0 (i_ l)/\K (Vs (aw (u8L (u8v l) 0 (i_ l)))) (AH.mk (Kd (KG (u8v l) 5) (e_ r)) 2))):=by kernel_rfl
theorem DD:type_of%(by have h:=@Mn;revert h;delta b_ e_ f_ g_ i_ k_ v_ w_ B_ F_ G_ I_ P_ JW J0 Kd Ki Kl Kt KG;exact id):=@Mn
theorem Bz:XKt.Ok:=⟨am,aE,ap,.cons fb_tab .nil⟩
theorem fbL_u(l:LB)(x:Nat):fbL (u8v l) (x:Int)=l++dg36 3 x:=by unfold fbL;rw[jo,Gs]
theorem qp:∀ f n,(dg36 f n).length<=f+1
 |0,n=>by simp[dg36]
 |f+1,n=>by unfold dg36;split;simp;have:=qp f (n/36);rw[Gr];simp;omega
theorem rB:∀ l:Lg,(keyB l).length<=5*l.length
 | []=>GE _
 |x::l=>by have:=rB l;have a:=qp 3 x;show((dg36 3 x++[32])++keyB l).length<=_;rw[Gr,Gr,GR];simp;omega
theorem vU{R:Lg}{i:Nat}(h:i<R.length):keyB (R.take (i+1))=(keyB (R.take i)++dg36 3 R[i])++[32]:=by
 rw[GU h,zt,Hw];have:keyB [R[i]]=dg36 3 R[i]++[32]:=by simp[keyB]
 rw[this]
theorem isB_u(l:LB):IsB (u8v l) 0 l.length/\u8L (u8v l) 0 l.length=l:=by
 have a:(u8v l).length=l.length:=Gu _;have e:((u8v l).drop 0).take l.length=u8v l:=by rw[I7,<-a,Hh]
 refine⟨⟨l,e,rfl⟩,?_⟩;unfold u8L;rw[e];unfold u8v;rw[Hp];conv=>rhs;rw[<-HZ l]
 refine GT λb _=>?_;show UInt8.ofNat ((b.toNat:Int).toNat)=b;rw[Gs];simp
theorem end_kt(Q:Value->AH->Prop)(r:Le)(l:LB)(s:ByteArray):endF env (hKt0 r) [] [] [] Q (.string s) (hKt r l)=(HF (.agg ⟨inV r⟩)/\Q (.string s) (hKt0 r)):=by kernel_rfl
theorem Dj(R:Lg)(s:∀ x∈R,x<1679616)(z:R.length<=100000):WalkF env f43 [groS 0 (inF R).length] (hKt0 (inF R)) (.string (aw (keyB R))) (hKt0 (inF R)):=by
 have e:=ao R;refine aJ Bz (d:=5) (ns:=[]) (zs:=[]) (ws:=[]) ((jKt_nf _ (inF R)).mpr ⟨ab _,aU [],?_⟩);refine LAtZ.stepF Bz nsKt [] [] [0,3,4] (by kernel_rfl) (λm G A=>∃ i:Nat,G=frKt (inF R).length (keyB (R.take i)).length i/\A=hKt (inF R) (keyB (R.take i))/\i+m=R.length) ?_ (k:=R.length) ⟨0,rfl,rfl,by omega⟩;rintro m G A ⟨i,rfl,rfl,q⟩;have j:=rB (R.take i);rw[Hd]at j;refine(DD _ _ (inF R) (keyB (R.take i)) i).mpr (Sp.intro (λc=>?_) (λc=>?_));have c:=odt c;rw[e]at c;have g:i<R.length:=by omega
 have b:i<(inF R).length:=by omega
 have y:=s _ (Gy g);have o:=vU g;have hd:=qp 3 R[i];have v:aa (inV (inF R)) (i:Int)=(R[i]:Nat):=by rw[aq b,bF g]
 have p:nth (inV (inF R)) i=some (Vi (R[i]:Nat)):=by rw[aP b,bF g]
 generalize R[i]=x at*;generalize keyB (R.take i)=l at*;have h:(u8v l).length=l.length:=Gu _;have u:IntKind.wrap .u64 ((x:Nat):Int)=x:=nG (by omega) (by omega);have r:(l++dg36 3 x).length=l.length+(dg36 3 x).length:=Gr;have a:(u8v (l++dg36 3 x)).length=(l++dg36 3 x).length:=Gu _;have t:u8v (l++dg36 3 x)++[Value.int .u8 32]=u8v ((l++dg36 3 x)++[32]):=(eL _ [32]).symm;rw[v];refine⟨⟨by omega,by omega⟩,p,Sp.intro (λd=>absurd (odt d) (by omega)) (λd=>?_)⟩;rw[u,fbL_u,t,aA (x:=(i:Int)+1) (by omega) (by omega)];refine⟨⟨aU _,aU _,⟨rfl,by rw[jo],by rw[h],⟨by omega,by omega⟩,by omega⟩⟩,⟨rfl,by rw[a,GP],by omega,by omega⟩,ab _,aU _,m-1,by omega,i+1,?_,?_,by omega⟩;rw[o,Gr (bs:=[32])];rfl;rw[o];rfl;have c:=odf c;rw[e]at c;obtain rfl:i=R.length:=by omega
 rw[Hh];obtain⟨w,b2⟩:=isB_u (keyB R);refine⟨w,?_⟩;rw[b2];exact(end_kt _ (inF R) (keyB R) (aw (keyB R))).mpr ⟨ab _,rfl,rfl⟩
def toN(l:Lh):Lg:=(l.map deI).map Int.toNat
theorem toN_in(R:Lg):toN (inV (inF R))=R:=by
 unfold toN;rw[dp];unfold inF;rw[Hp];conv=>rhs;rw[<-HZ R]
 exact GT λx _=>Gs x
theorem EB(r:Le):aW [groI r]=hKt0 r:=by kernel_rfl
def spKt:Lh->List AObj->Option (Ll×Value×List AObj)
 | [.slice (some ⟨B,o,none⟩) n k],[.gro l t e]=>
   bif (Nat.beq B 0&&Nat.beq o 0)&&(Nat.beq k (unk+3+1)&&Nat.beq e 3)then
    some (some (t=[]/\l=inV (inF (toN l))/\n=l.length/\(∀x∈toN l,x<1679616)/\l.length<=100000),.string (aw (keyB (toN l))),[.gro l [] e])else none
 |_,_=>none
theorem kt_tab:∀ args A p v A',frmR noAr spKt args A=some (p,v,A')->PH p->CallAt env 43 args A v A':=be am (fn:=f43) rfl λargs c p v a h g=>by unfold spKt at h;split at h;rename_i B o n k l t e;obtain⟨d,h⟩:=bw h;simp only[Gx]at h;obtain⟨rfl,rfl,rfl⟩:=h;simp only[f',GG]at d;obtain⟨⟨rfl,rfl⟩,rfl,rfl⟩:=d;obtain⟨rfl,j,rfl,i,b⟩:t=[]/\l=inV (inF (toN l))/\n=l.length/\(∀x∈toN l,x<1679616)/\l.length<=100000:=g;generalize toN l=R at*;subst j;rw[ah]at b ⊢;have:=Dj R i (by rw[ao]at b;exact b);rw[<-EB]at this;exact this;cases h
noncomputable def nNu:Nat:=Func.ntmps f44
noncomputable def bNu:Code:=au f44
def elNu:El:={elT [69,134] [91,156]with app:=true,gm:=λ_=>true}
def nsN2:List (NPos×TypeId×Nat):=[(.cell 11 1,4,1),(.cell 11 2,37,1)]
def nsN5:List (NPos×TypeId×Nat):=[(.cell 18 1,4,1),(.cell 18 2,37,1)]
def slN1:Lg:=[1,2,3,4,8,9,10]
def slN2:Lg:=[2,3,4,8,9,11,12]
def slN3:Lg:=[2,3,4,8,9,11,12,13,14]
def slN4:Lg:=[8,11,15,16,17]
def slN5:Lg:=[8,11,15,16,18,19]
def slN6:Lg:=[8,11,15,16,18,19,20,21]
def pN1:Lg:=[1,1,0,1,0]
def pN2:Lg:=[1,1,1,1,0,1,0]
def pN3:Lg:=[1,0,0,1,0,1,0]
def pN4:Lg:=[1,1,1,1,1,1,1,0,1,0]
def pN5:Lg:=[1,1,1,1,1,1,1,1,1,0,1,0]
def pN6:Lg:=[1,0,0,1,0,1,0]
def XNu(P:Int->Lh->Lh->Prop)(q:Le):SX:=⟨env,[(42,frmR noAr (spMh P q))],elNu,λk=>bif Nat.beq k 3 then .autoN [] [] [] slN1 else bif Nat.beq k 8 then .autoN nsN2 [.cell 11 2] [] slN2 else bif Nat.beq k 12 then .autoN [] [] [] slN3 else bif Nat.beq k 20 then .autoN [] [] [] slN4 else bif Nat.beq k 25 then .autoN nsN5 [.cell 18 2] [] slN5 else .autoN [] [] [] slN6⟩
def cz(K:KV):KX:=finK env (f44.results).toList K
def hNu0(L cl:Le):AH:=⟨(Nd (Nd Lf (some (groI cl)) Lf) (some (groI L)) Lf),2⟩
def frN1(m n:Nat)(k:Nat)(ln:Nat)(i:Int):T Value:=(Nd (Nd (Nd Lf (some (.int .i64 n)) Lf) (some (groS 0 ln)) (Nd (Nd Lf (some (groS 4 k)) Lf) none Lf)) none (Nd (Nd (Nd Lf (some (.pointer (some ⟨3,0,none⟩))) Lf) (some (.pointer (some ⟨2,0,none⟩))) Lf) (some (groS 1 m)) (Nd (Nd Lf (some (.int .i64 i)) Lf) none Lf)))
def hN1(L cl:Le)(s:Int)(acc:Li)(nx:La)(at':Le):AH:=⟨(Nd (Nd (Nd Lf (some (.cells [.int .i64 0,nilS,nilS] 25)) Lf) (some (groI cl)) Lf) (some (groI L)) (Nd (Nd Lf (some (groI at')) Lf) (some (auC s acc nx)) Lf)),5⟩
def frN2(m n k:Nat)(i:Nat):T Value:=(Nd (Nd (Nd Lf (some (.int .i64 n)) (Nd Lf (some (.pointer (some ⟨5,0,none⟩))) Lf)) none (Nd (Nd Lf (some (groS 4 k)) Lf) none Lf)) none (Nd (Nd (Nd Lf (some (.pointer (some ⟨3,0,none⟩))) Lf) (some (.pointer (some ⟨2,0,none⟩))) (Nd Lf (some (.int .i64 i)) Lf)) (some (groS 1 m)) Lf))
def hN2(L cl:Le)(s:Int)(acc:Li)(nx:La)(at':Le)(c0:Int)(oa:Li)(on:La):AH:=⟨(Nd (Nd (Nd (Nd Lf (some (groR on)) Lf) (some (.cells [.int .i64 0,nilS,nilS] 25)) Lf) (some (groI cl)) (Nd Lf (some (.cells [.int .i64 c0,groS 6 oa.length,groS 7 on.length] 25)) Lf)) (some (groI L)) (Nd (Nd Lf (some (groI at')) Lf) (some (auC s acc nx)) (Nd Lf (some (groB oa)) Lf))),8⟩
def frN3(m n k:Nat)(i:Nat)(r b:Nat):T Value:=(Nd (Nd (Nd Lf (some (.int .i64 n)) (Nd Lf (some (.pointer (some ⟨5,0,none⟩))) Lf)) none (Nd (Nd Lf (some (groS 4 k)) Lf) none (Nd Lf (some (groS 6 r)) Lf))) none (Nd (Nd (Nd Lf (some (.pointer (some ⟨3,0,none⟩))) Lf) (some (.pointer (some ⟨2,0,none⟩))) (Nd Lf (some (.int .i64 i)) Lf)) (some (groS 1 m)) (Nd Lf none (Nd Lf (some (.int .i64 b)) Lf))))
def hN3(L cl:Le)(s:Int)(acc:Li)(nx:La)(at':Le)(c0:Int)(oa:Li)(on:La)(r:Le):AH:=⟨(Nd (Nd (Nd (Nd Lf (some (groB oa)) Lf) (some (.cells [.int .i64 0,nilS,nilS] 25)) Lf) (some (groI cl)) (Nd Lf (some (.cells [.int .i64 c0,groS 7 oa.length,groS 8 on.length] 25)) Lf)) (some (groI L)) (Nd (Nd (Nd Lf (some (groR on)) Lf) (some (groI at')) Lf) (some (auC s acc nx)) (Nd Lf (some (groI r)) Lf))),9⟩
def frN4(m k:Nat)(i:Nat):T Value:=(Nd (Nd (Nd (Nd (Nd Lf (some (groS 4 m)) Lf) none Lf) none (Nd Lf (some (.pointer (some ⟨3,0,none⟩))) Lf)) none (Nd (Nd (Nd Lf (some (.int .i64 i)) Lf) none Lf) none Lf)) none (Nd (Nd (Nd (Nd Lf (some (groS 5 k)) Lf) (some (.pointer (some ⟨2,0,none⟩))) Lf) none Lf) none Lf))
def hN4(L cl:Le)(c0:Int)(oa:Li)(on:La)(od nb:Le):AH:=⟨(Nd (Nd (Nd (Nd Lf (some (groR on)) Lf) (some (.cells [.int .i64 c0,groS 6 oa.length,groS 7 on.length] 25)) Lf) (some (groI cl)) (Nd Lf (some (groI nb)) Lf)) (some (groI L)) (Nd (Nd Lf (some (groI od)) Lf) (some (.cells [.int .i64 0,nilS,nilS] 25)) (Nd Lf (some (groB oa)) Lf))),8⟩
def frN5(m k:Nat)(i:Nat):T Value:=(Nd (Nd (Nd (Nd (Nd Lf (some (groS 4 m)) Lf) none Lf) none (Nd (Nd Lf (some (.int .i64 i)) Lf) (some (.pointer (some ⟨3,0,none⟩))) Lf)) none Lf) none (Nd (Nd (Nd (Nd Lf (some (groS 5 k)) Lf) (some (.pointer (some ⟨2,0,none⟩))) Lf) none Lf) none (Nd (Nd (Nd Lf (some (.pointer (some ⟨6,0,none⟩))) Lf) none Lf) none Lf)))
def hN5(L cl:Le)(c0:Int)(oa:Li)(on:La)(od nb:Le)(ra:Li)(rn:La):AH:=⟨(Nd (Nd (Nd (Nd Lf (some (groB oa)) Lf) (some (.cells [.int .i64 c0,groS 7 oa.length,groS 8 on.length] 25)) Lf) (some (groI cl)) (Nd (Nd Lf (some (groB ra)) Lf) (some (groI nb)) Lf)) (some (groI L)) (Nd (Nd (Nd Lf (some (groR on)) Lf) (some (groI od)) Lf) (some (.cells [.int .i64 0,nilS,nilS] 25)) (Nd (Nd Lf (some (groR rn)) Lf) (some (.cells [.int .i64 0,groS 9 ra.length,groS 10 rn.length] 25)) Lf))),11⟩
def frN6(m k:Nat)(i r b:Nat):T Value:=(Nd (Nd (Nd (Nd (Nd Lf (some (groS 4 m)) Lf) none Lf) none (Nd (Nd Lf (some (.int .i64 i)) Lf) (some (.pointer (some ⟨3,0,none⟩))) Lf)) none (Nd Lf none (Nd (Nd Lf (some (.int .i64 b)) Lf) none Lf))) none (Nd (Nd (Nd (Nd Lf (some (groS 5 k)) Lf) (some (.pointer (some ⟨2,0,none⟩))) Lf) none (Nd (Nd Lf (some (groS 7 r)) Lf) none Lf)) none (Nd (Nd (Nd Lf (some (.pointer (some ⟨6,0,none⟩))) Lf) none Lf) none Lf)))
def hN6(L cl:Le)(c0:Int)(oa:Li)(on:La)(od nb:Le)(ra:Li)(rn:La)(r:Le):AH:=⟨(Nd (Nd (Nd (Nd Lf (some (groI r)) Lf) (some (.cells [.int .i64 c0,groS 8 oa.length,groS 9 on.length] 25)) (Nd Lf (some (groR rn)) Lf)) (some (groI cl)) (Nd (Nd Lf (some (groR on)) Lf) (some (groI nb)) Lf)) (some (groI L)) (Nd (Nd (Nd Lf (some (groB oa)) Lf) (some (groI od)) Lf) (some (.cells [.int .i64 0,nilS,nilS] 25)) (Nd (Nd Lf (some (groB ra)) Lf) (some (.cells [.int .i64 0,groS 10 ra.length,groS 11 rn.length] 25)) Lf))),12⟩
def jNu(K:KV)(P:Int->Lh->Lh->Prop)(q:Le)(L cl:Le)(n:Nat)(s:Int)(acc:Li)(nx:La):Prop:=bh (XNu P q) 1 f44 [.agg ⟨[.int .i64 s,dat 1 (blV acc),dat 1 (roV nx)]⟩,groS 0 L.length,groS 1 cl.length,.int .i64 n] (hNu0 L cl) K
def jN1(K:KV)(again:KF)(P:Int->Lh->Lh->Prop)(q:Le)(L cl:Le)(n:Nat)(s:Int)(acc:Li)(nx:La)(at':Le)(i:Int):Prop:=aI (XNu P q) 1 nNu (hNu0 L cl) bNu pN1 (cz K) [] [] [] slN1 again (frN1 cl.length n at'.length L.length i) (hN1 L cl s acc nx at')
def jN2(K:KV)(again:KF)(P:Int->Lh->Lh->Prop)(q:Le)(L cl:Le)(n:Nat)(s:Int)(acc:Li)(nx:La)(at':Le)(c0:Int)(oa:Li)(on:La)(i:Nat):Prop:=aI (XNu P q) 1 nNu (hNu0 L cl) bNu pN2 (cz K) nsN2 [.cell 11 2] [] slN2 again (frN2 cl.length n at'.length i) (hN2 L cl s acc nx at' c0 oa on)
noncomputable def kN2(K:KV)(again2:KF)(P:Int->Lh->Lh->Prop)(q:Le)(L cl:Le):KX:=stepF (XNu P q) 1 nNu (hNu0 L cl) bNu pN2 (cz K) nsN2 [.cell 11 2] [] slN2 again2
def jN3(K:KV)(again2 again:KF)(P:Int->Lh->Lh->Prop)(q:Le)(L cl:Le)(n:Nat)(s:Int)(acc:Li)(nx:La)(at':Le)(c0:Int)(oa:Li)(on:La)(i:Nat)(r:Le)(b:Nat):Prop:=aI (XNu P q) 1 nNu (hNu0 L cl) (ak (subC pN2 bNu)) pN3 (kN2 K again2 P q L cl) [] [] [] slN3 again (frN3 cl.length n at'.length i r.length b) (hN3 L cl s acc nx at' c0 oa on r)
def jN4(K:KV)(again:KF)(P:Int->Lh->Lh->Prop)(q:Le)(L cl:Le)(c0:Int)(oa:Li)(on:La)(od nb:Le)(i:Nat):Prop:=aI (XNu P q) 1 nNu (hNu0 L cl) bNu pN4 (cz K) [] [] [] slN4 again (frN4 od.length nb.length i) (hN4 L cl c0 oa on od nb)
def jN5(K:KV)(again:KF)(P:Int->Lh->Lh->Prop)(q:Le)(L cl:Le)(c0:Int)(oa:Li)(on:La)(od nb:Le)(ra:Li)(rn:La)(i:Nat):Prop:=aI (XNu P q) 1 nNu (hNu0 L cl) bNu pN5 (cz K) nsN5 [.cell 18 2] [] slN5 again (frN5 od.length nb.length i) (hN5 L cl c0 oa on od nb ra rn)
noncomputable def kN5(K:KV)(again2:KF)(P:Int->Lh->Lh->Prop)(q:Le)(L cl:Le):KX:=stepF (XNu P q) 1 nNu (hNu0 L cl) bNu pN5 (cz K) nsN5 [.cell 18 2] [] slN5 again2
def jN6(K:KV)(again2 again:KF)(P:Int->Lh->Lh->Prop)(q:Le)(L cl:Le)(c0:Int)(oa:Li)(on:La)(od nb:Le)(ra:Li)(rn:La)(i:Nat)(r:Le)(b:Nat):Prop:=aI (XNu P q) 1 nNu (hNu0 L cl) (ak (subC pN5 bNu)) pN6 (kN5 K again2 P q L cl) [] [] [] slN6 again (frN6 od.length nb.length i r.length b) (hN6 L cl c0 oa on od nb ra rn r)
abbrev _root_.Go.II:=@List.getElem_map
abbrev _root_.Go.Jc:=@List.getElem_range
abbrev _root_.Go.JI:=@List.eq_replicate_iff
abbrev _root_.Go.Ji:=@List.ext_getElem
abbrev _root_.Go.Ju:=@List.getElem_of_eq
abbrev C_:=n_ [Vi 0,Value.slice none 0 0,Value.slice none 0 0] 25
abbrev Ly:=λa=>List.replicate (z_ a) (Vi 0)
theorem Mo(K:KV)(P:Int->Lh->Lh->Prop)(q:Le)(L:Le)(cl:Le)(n:Nat)(s:Int)(acc:Li)(nx:La):jNu K P q L cl n s acc nx=((0<=(n:Int)/\(n:Int)<=(n:Int)/\(n:Int)<=281474976710656/\8*Int.toNat (n:Int)<=281474976710656)/\I_ L/\I_ cl/\V' acc/\K9 nx/\J0 (Ly n)/\LAtZ (XNu P q) 1 f44.ntmps (hNu0 L cl) (au f44) [1,1,0,1,0] (finK (SX.E (XNu P q)) f44.results.toList K) (No (Ns (M' n) (Kl L.length) (F_ (g_ 4 0 (z_ n)))) (Ns (Kd (Sg (c_ 3 0)) (c_ 2 0)) (g_ 1 0 cl.length) (No (v_ (B_ L.length-1)) Lf))) (Q_ (Kd (Sg C_) (e_ cl)) (e_ L) (Kd (KG (Ly n) 3) (l_ s acc nx)) 5)):=by kernel_rfl
theorem jNu_nf:type_of%(by have h:=@Mo;revert h;delta b_ c_ e_ f_ g_ k_ l_ n_ v_ z_ B_ C_ F_ I_ Q_ W_ M' V' J0 Kd Kl KG K9 Ly;exact id):=@Mo
abbrev K':=λa b c=>Vi (aa (inV a) (m_ b c))
abbrev Lr:=λa b c=>List.set (inV a) (z_ b) (Vi c)
theorem Mp(K:KV)(again:KF)(P:Int->Lh->Lh->Prop)(q:Le)(L:Le)(cl:Le)(n:Nat)(s:Int)(acc:Li)(nx:La)(at':Le)(i:Int):jN1 K again P q L cl n s acc nx at' i=(Sp (decide (0<=i)) ((0<=i/\i<B_ L.length)/\nth (inV L) (z_ (B_ (Int.toNat i+0)))=some (Vi (aa (inV L) (B_ (Int.toNat i+0))))/\(0<=aa (inV L) (B_ (Int.toNat i+0))/\aa (inV L) (B_ (Int.toNat i+0))<B_ cl.length)/\nth (inV cl) (z_ (m_ (inV L) (B_ (Int.toNat i+0))))=some (K' cl (inV L) (B_ (Int.toNat i+0)))/\(0<=i/\i<B_ L.length)/\nth (inV L) (z_ (B_ (Int.toNat i+0)))=some (Vi (aa (inV L) (B_ (Int.toNat i+0))))/\(0<=aa (inV cl) (m_ (inV L) (B_ (Int.toNat i+0)))/\aa (inV cl) (m_ (inV L) (B_ (Int.toNat i+0)))<B_ at'.length)/\Int.toNat (m_ (inV cl) (m_ (inV L) (B_ (Int.toNat i+0))))<List.length (inV at')/\I_ L/\I_ cl/\V' acc/\K9 nx/\J0 (Lr at' (m_ (inV cl) (m_ (inV L) (B_ (Int.toNat i+0)))) (aa (inV L) (B_ (Int.toNat i+0))))/\again (No (Ns (M' n) (Kl L.length) (F_ (g_ 4 0 at'.length))) (Ns (Kd (Sg (c_ 3 0)) (c_ 2 0)) (g_ 1 0 cl.length) (No (v_ (i-1)) Lf))) (Q_ (Kd (Sg C_) (e_ cl)) (e_ L) (Kd (KG (Lr at' (m_ (inV cl) (m_ (inV L) (B_ (Int.toNat i+0)))) (aa (inV L) (B_ (Int.toNat i+0)))) 3) (l_ s acc nx)) 5)) ((0<=s/\s<B_ cl.length)/\nth (inV cl) (z_ (B_ (Int.toNat s+0)))=some (Vi (aa (inV cl) (B_ (Int.toNat s+0))))/\I_ L/\I_ cl/\V' acc/\K9 nx/\I_ at'/\Lp/\Lp/\LAtZ (XNu P q) 1 nNu (hNu0 L cl) bNu [1,1,1,1,0,1,0] (cz K) (No (No (Ns Lf (Vi n) (Sg (c_ 5 0))) (F_ (g_ 4 0 at'.length))) (Kd (Ns (Sg (c_ 3 0)) (c_ 2 0) (M' 0)) (g_ 1 0 cl.length))) (Q_ (Ns (Ns (K5 37) C_ Lf) (e_ cl) (Ks [Vi (aa (inV cl) (B_ (Int.toNat s+0))),Kn 6 0,Kn 7 0] 25)) (e_ L) (Ns (J3 at') (l_ s acc nx) (K5 4)) 8))):=by kernel_rfl
theorem jN1_nf:type_of%(by have h:=@Mp;revert h;delta b_ c_ e_ f_ g_ k_ l_ m_ n_ v_ z_ B_ C_ F_ I_ Q_ V_ W_ K' M' V' J0 J3 Kd Kl Kn Ks KG K5 K9 Lp Lr;exact id):=@Mp
theorem Mq(K:KV)(again:KF)(P:Int->Lh->Lh->Prop)(q:Le)(L:Le)(cl:Le)(n:Nat)(s:Int)(acc:Li)(nx:La)(at':Le)(c0:Int)(oa:Li)(on:La)(i:Nat):jN2 K again P q L cl n s acc nx at' c0 oa on i=(Sp (decide ((i:Int)<(n:Int))) (((0:Int)<=(256:Int)/\(256:Int)<=(256:Int)/\(256:Int)<=(281474976710656:Int)/\(2048:Nat)<=(281474976710656:Nat))/\I_ L/\I_ cl/\V' acc/\K9 nx/\I_ at'/\J0 (inV z256)/\J0 (blV oa)/\J0 (roV on)/\LAtZ (XNu P q) 1 nNu (hNu0 L cl) (ak (subC pN2 bNu)) [1,0,0,1,0,1,0] (stepF (XNu P q) 1 nNu (hNu0 L cl) bNu pN2 (cz K) nsN2 [NPos.cell 11 2] [] slN2 again) (No (No (Ns Lf (Vi n) (Sg (c_ 5 0))) (No (Kj 4 0 at'.length) (Sg (U' 6 0 256 18446744073709551620)))) (Ns (Ns (Sg (c_ 3 0)) (c_ 2 0) (M' i)) (g_ 1 0 cl.length) (KI (M' 0)))) (Q_ (Ns (Ns (Sg (Z_ oa)) C_ Lf) (e_ cl) (Ks [Vi c0,g_ 7 0 oa.length,g_ 8 0 on.length] 25)) (e_ L) (Ns (Kd (Sg (O_ on)) (e_ at')) (l_ s acc nx) (Sg (AObj.gro (inV z256) [] 3))) 9)) (HFs [f_ (blV oa),f_ (roV on),Ls q,f_ (blV oa),f_ (roV on)] (PH (Prod.fst (some ((([]:Lh)=[]/\([]:Lh)=[])/\(List.length oa=List.length (blV oa)/\List.length on=List.length (roV on))/\P c0 (blV oa) (roV on)),g_ 2 0 q.length,[Z_ oa,O_ on,e_ q])))/\(0<=(n:Int)/\(n:Int)<=(n:Int)/\(n:Int)<=281474976710656/\8*Int.toNat (n:Int)<=281474976710656)/\I_ L/\I_ cl/\I_ q/\J0 (Ly n)/\J0 (blV oa)/\J0 (roV on)/\LAtZ (XNu P q) 1 nNu (hNu0 L cl) bNu [1,1,1,1,1,1,1,0,1,0] (cz K) (No (No (No (F_ (g_ 4 0 q.length)) (Sg (c_ 3 0))) (t_ (M' 0))) (t_ (Kd (Kj 5 0 (z_ n)) (c_ 2 0)))) (Q_ (Ns (Kd (Sg (O_ on)) (n_ [Vi c0,g_ 6 0 oa.length,g_ 7 0 on.length] 25)) (e_ cl) (KG (Ly n) 3)) (e_ L) (Ns (J3 q) C_ (Sg (Z_ oa))) 8))):=by kernel_rfl
theorem jN2_nf:type_of%(by have h:=@Mq;revert h;delta b_ c_ e_ f_ g_ k_ l_ n_ t_ z_ C_ F_ I_ O_ Q_ W_ Z_ M' U' V' J0 J3 Kd Kj Ks KG KI K9 Ls Ly;exact id):=@Mq
theorem Mr(K:KV)(again2:KF)(again:KF)(P:Int->Lh->Lh->Prop)(q:Le)(L:Le)(cl:Le)(n:Nat)(s:Int)(acc:Li)(nx:La)(at':Le)(c0:Int)(oa:Li)(on:La)(i:Nat)(r:Le)(b:Nat):jN3 K again2 again P q L cl n s acc nx at' c0 oa on i r b=(Sp (decide ((b:Int)<256)) ((0<=(i:Int)/\(i:Int)<B_ at'.length)/\nth (inV at') i=some (Vi (P_ at' i))/\(0<=aa (inV at') i/\aa (inV at') (i:Int)<Kh nx)/\nth (roV nx) (z_ (Kp (P_ at' i)))=some (Vd 1 (KP nx at' i))/\(0<=(b:Int)/\(b:Int)<j_ (KP nx at' i))/\nth (KP nx at' i) b=some (Vi (aa (KP nx at' i) b))/\(0<=aa (KP nx at' i) b/\aa (KP nx at' i) (b:Int)<B_ cl.length)/\nth (inV cl) (z_ (m_ (KP nx at' i) b))=some (K' cl (KP nx at' i) b)/\(0<=(b:Int)/\(b:Int)<B_ r.length)/\b<List.length (inV r)/\I_ L/\I_ cl/\V' acc/\K9 nx/\I_ at'/\J0 (List.set (inV r) b (K' cl (KP nx at' i) b))/\J0 (blV oa)/\J0 (roV on)/\again (No (No (Ns Lf (Vi n) (Sg (c_ 5 0))) (No (Kj 4 0 at'.length) (Kj 6 0 r.length))) (Ns (Ns (Sg (c_ 3 0)) (c_ 2 0) (M' i)) (g_ 1 0 cl.length) (KI (v_ ((b:Int)+1))))) (Q_ (Ns (Ns (Sg (Z_ oa)) C_ Lf) (e_ cl) (Ks [Vi c0,g_ 7 0 oa.length,g_ 8 0 on.length] 25)) (e_ L) (Ns (Kd (Sg (O_ on)) (e_ at')) (l_ s acc nx) (KG (List.set (inV r) b (K' cl (KP nx at' i) b)) 3)) 9)) ((List.all [g_ 6 0 r.length] cellv=true/\List.length on+0=List.length (roV on)/\List.length on+(1:Nat)<=(70368744177664:Nat)/\(List.length on+1)*(24:Nat)<=(140737488355328:Nat))/\(0<=(i:Int)/\(i:Int)<B_ at'.length)/\nth (inV at') i=some (Vi (P_ at' i))/\(0<=aa (inV at') i/\aa (inV at') (i:Int)<j_ (blV acc))/\nth (blV acc) (z_ (Kp (P_ at' i)))=some (KN (blV acc) (Kp (P_ at' i)))/\(List.all [KN (blV acc) (Kp (P_ at' i))] cellv=true/\List.length oa+0=List.length (blV oa)/\List.length oa+(1:Nat)<=(70368744177664:Nat)/\(List.length oa+1)*(1:Nat)<=(140737488355328:Nat))/\List.length (inV r)=List.length r/\I_ L/\I_ cl/\V' acc/\K9 nx/\I_ at'/\J0 (blV oa++[KN (blV acc) (Kp (P_ at' i))])/\J0 (roV on++[Vd 1 (inV r)])/\again2 (No (No (Ns Lf (Vi n) (Sg (c_ 5 0))) (F_ (g_ 4 0 at'.length))) (Kd (Ns (Sg (c_ 3 0)) (c_ 2 0) (v_ ((i:Int)+1))) (g_ 1 0 cl.length))) (Q_ (Ns (Ns (KG (roV on++[Vd 1 (inV r)]) 37) C_ Lf) (e_ cl) (Ks [Vi c0,g_ 6 0 (List.length oa+1),g_ 7 0 (List.length on+1)] 25)) (e_ L) (Ns (J3 at') (l_ s acc nx) (KG (blV oa++[KN (blV acc) (Kp (P_ at' i))]) 4)) 8))):=by kernel_rfl
theorem jN3_nf:type_of%(by have h:=@Mr;revert h;delta b_ c_ e_ f_ g_ j_ k_ l_ m_ n_ r_ v_ z_ B_ C_ F_ I_ O_ P_ Q_ W_ Z_ K' M' V' J0 J3 Kd Kh Kj Kp Ks KG KI KN KP K9;exact id):=@Mr
theorem Ms(K:KV)(again:KF)(P:Int->Lh->Lh->Prop)(q:Le)(L:Le)(cl:Le)(c0:Int)(oa:Li)(on:La)(od:Le)(nb:Le)(i:Nat):jN4 K again P q L cl c0 oa on od nb i=(Sp (decide ((i:Int)<B_ od.length)) ((0<=(i:Int)/\(i:Int)<B_ od.length)/\nth (inV od) i=some (Vi (P_ od i))/\(0<=aa (inV od) i/\aa (inV od) (i:Int)<B_ nb.length)/\Int.toNat (m_ (inV od) i)<List.length (inV nb)/\I_ L/\I_ cl/\I_ od/\J0 (Lr nb (m_ (inV od) i) i)/\J0 (blV oa)/\J0 (roV on)/\again (No (No (No (F_ (g_ 4 0 od.length)) (Sg (c_ 3 0))) (t_ (v_ ((i:Int)+1)))) (t_ (Kd (Kj 5 0 nb.length) (c_ 2 0)))) (Q_ (Ns (Kd (Sg (O_ on)) (n_ [Vi c0,g_ 6 0 oa.length,g_ 7 0 on.length] 25)) (e_ cl) (KG (Lr nb (m_ (inV od) i) i) 3)) (e_ L) (Ns (J3 od) C_ (Sg (Z_ oa))) 8)) (I_ L/\I_ cl/\I_ od/\I_ nb/\J0 (blV oa)/\J0 (roV on)/\Lp/\Lp/\LAtZ (XNu P q) 1 nNu (hNu0 L cl) bNu [1,1,1,1,1,1,1,1,1,0,1,0] (cz K) (No (No (No (F_ (g_ 4 0 od.length)) (Kd (M' 0) (c_ 3 0))) Lf) (No (No (Kd (Kj 5 0 nb.length) (c_ 2 0)) Lf) (t_ (Sg (c_ 6 0))))) (Q_ (Ns (Kd (Sg (Z_ oa)) (n_ [Vi c0,g_ 7 0 oa.length,g_ 8 0 on.length] 25)) (e_ cl) (Kd (K5 4) (e_ nb))) (e_ L) (Ns (Kd (Sg (O_ on)) (e_ od)) C_ (Kd (K5 37) (n_ [Vi 0,Kn 9 0,Kn 10 0] 25))) 11))):=by kernel_rfl
theorem jN4_nf:type_of%(by have h:=@Ms;revert h;delta b_ c_ e_ f_ g_ k_ m_ n_ t_ v_ z_ B_ C_ F_ I_ O_ P_ Q_ V_ Z_ M' J0 J3 Kd Kj Kn KG K5 Lp Lr;exact id):=@Ms
theorem Mt(K:KV)(again:KF)(P:Int->Lh->Lh->Prop)(q:Le)(L:Le)(cl:Le)(c0:Int)(oa:Li)(on:La)(od:Le)(nb:Le)(ra:Li)(rn:La)(i:Nat):jN5 K again P q L cl c0 oa on od nb ra rn i=(Sp (decide ((i:Int)<B_ od.length)) (((0:Int)<=(256:Int)/\(256:Int)<=(256:Int)/\(256:Int)<=(281474976710656:Int)/\(2048:Nat)<=(281474976710656:Nat))/\I_ L/\I_ cl/\I_ od/\I_ nb/\J0 (inV z256)/\J0 (blV oa)/\J0 (roV on)/\J0 (blV ra)/\J0 (roV rn)/\LAtZ (XNu P q) 1 nNu (hNu0 L cl) (ak (subC pN5 bNu)) [1,0,0,1,0,1,0] (stepF (XNu P q) 1 nNu (hNu0 L cl) bNu pN5 (cz K) nsN5 [NPos.cell 18 2] [] slN5 again) (No (No (No (F_ (g_ 4 0 od.length)) (Kd (M' i) (c_ 3 0))) (KI (F_ (Vi 0)))) (No (No (Kd (Kj 5 0 nb.length) (c_ 2 0)) (F_ (U' 7 0 256 18446744073709551620))) (t_ (Sg (c_ 6 0))))) (Q_ (Ns (Ns (Sg (AObj.gro (inV z256) [] 3)) (n_ [Vi c0,g_ 8 0 oa.length,g_ 9 0 on.length] 25) (Sg (O_ rn))) (e_ cl) (Kd (Sg (O_ on)) (e_ nb))) (e_ L) (Ns (Kd (Sg (Z_ oa)) (e_ od)) C_ (Kd (Sg (Z_ ra)) (n_ [Vi 0,g_ 10 0 ra.length,g_ 11 0 rn.length] 25))) 12)) (K (f_ [Vi 0,g_ 9 0 ra.length,g_ 10 0 rn.length]) (Q_ (Ns (Kd (Sg (Z_ oa)) (n_ [Vi c0,g_ 7 0 oa.length,g_ 8 0 on.length] 25)) (e_ cl) (Kd (Sg (Z_ ra)) (e_ nb))) (e_ L) (Ns (Kd (Sg (O_ on)) (e_ od)) (n_ [Vi 0,g_ 9 0 ra.length,g_ 10 0 rn.length] 25) (Kd (Sg (O_ rn)) (n_ [Vi 0,g_ 9 0 ra.length,g_ 10 0 rn.length] 25))) 11))):=by kernel_rfl
theorem jN5_nf:type_of%(by have h:=@Mt;revert h;delta b_ c_ e_ f_ g_ k_ n_ t_ B_ C_ F_ I_ O_ Q_ Z_ M' U' J0 Kd Kj KI;exact id):=@Mt
theorem Mu(K:KV)(again2:KF)(again:KF)(P:Int->Lh->Lh->Prop)(q:Le)(L:Le)(cl:Le)(c0:Int)(oa:Li)(on:La)(od:Le)(nb:Le)(ra:Li)(rn:La)(i:Nat)(r:Le)(b:Nat):jN6 K again2 again P q L cl c0 oa on od nb ra rn i r b=(Sp (decide ((b:Int)<256)) ((0<=(i:Int)/\(i:Int)<B_ od.length)/\nth (inV od) i=some (Vi (P_ od i))/\(0<=aa (inV od) i/\aa (inV od) (i:Int)<B_ on.length)/\nth (roV on) (z_ (m_ (inV od) i))=some (Vd 1 (Kf on od i))/\(0<=(b:Int)/\(b:Int)<j_ (Kf on od i))/\nth (Kf on od i) b=some (Vi (aa (Kf on od i) b))/\(0<=aa (Kf on od i) b/\aa (Kf on od i) (b:Int)<B_ nb.length)/\nth (inV nb) (z_ (m_ (Kf on od i) b))=some (K' nb (Kf on od i) b)/\(0<=(b:Int)/\(b:Int)<B_ r.length)/\b<List.length (inV r)/\I_ L/\I_ cl/\I_ od/\I_ nb/\J0 (List.set (inV r) b (K' nb (Kf on od i) b))/\J0 (blV oa)/\J0 (roV on)/\J0 (blV ra)/\J0 (roV rn)/\again (No (No (No (F_ (g_ 4 0 od.length)) (Kd (M' i) (c_ 3 0))) (KI (No (v_ ((b:Int)+1)) Lf))) (No (No (Kd (Kj 5 0 nb.length) (c_ 2 0)) (F_ (g_ 7 0 r.length))) (t_ (Sg (c_ 6 0))))) (Q_ (Ns (Ns (KG (List.set (inV r) b (K' nb (Kf on od i) b)) 3) (n_ [Vi c0,g_ 8 0 oa.length,g_ 9 0 on.length] 25) (Sg (O_ rn))) (e_ cl) (Kd (Sg (O_ on)) (e_ nb))) (e_ L) (Ns (Kd (Sg (Z_ oa)) (e_ od)) C_ (Kd (Sg (Z_ ra)) (n_ [Vi 0,g_ 10 0 ra.length,g_ 11 0 rn.length] 25))) 12)) ((List.all [g_ 7 0 r.length] cellv=true/\List.length rn+0=List.length (roV rn)/\List.length rn+(1:Nat)<=(70368744177664:Nat)/\(List.length rn+1)*(24:Nat)<=(140737488355328:Nat))/\(0<=(i:Int)/\(i:Int)<B_ od.length)/\nth (inV od) i=some (Vi (P_ od i))/\(0<=aa (inV od) i/\aa (inV od) (i:Int)<B_ oa.length)/\nth (blV oa) (z_ (m_ (inV od) i))=some (KN (blV oa) (m_ (inV od) i))/\(List.all [KN (blV oa) (m_ (inV od) i)] cellv=true/\List.length ra+0=List.length (blV ra)/\List.length ra+(1:Nat)<=(70368744177664:Nat)/\(List.length ra+1)*(1:Nat)<=(140737488355328:Nat))/\List.length (inV r)=List.length r/\I_ L/\I_ cl/\I_ od/\I_ nb/\J0 (blV oa)/\J0 (roV on)/\J0 (blV ra++[KN (blV oa) (m_ (inV od) i)])/\J0 (roV rn++[Vd 1 (inV r)])/\again2 (No (No (No (F_ (g_ 4 0 od.length)) (Kd (v_ ((i:Int)+1)) (c_ 3 0))) Lf) (No (No (Kd (Kj 5 0 nb.length) (c_ 2 0)) Lf) (t_ (Sg (c_ 6 0))))) (Q_ (Ns (Kd (Sg (Z_ oa)) (n_ [Vi c0,g_ 7 0 oa.length,g_ 8 0 on.length] 25)) (e_ cl) (Kd (KG (blV ra++[KN (blV oa) (m_ (inV od) i)]) 4) (e_ nb))) (e_ L) (Ns (Kd (Sg (O_ on)) (e_ od)) C_ (Kd (KG (roV rn++[Vd 1 (inV r)]) 37) (n_ [Vi 0,g_ 9 0 (List.length ra+1),g_ 10 0 (List.length rn+1)] 25))) 11))):=by kernel_rfl
theorem jN6_nf:type_of%(by have h:=@Mu;revert h;delta b_ c_ e_ f_ g_ j_ k_ m_ n_ t_ v_ z_ B_ C_ F_ I_ O_ P_ Q_ Z_ K' M' J0 Kd Kf Kj KG KI KN;exact id):=@Mu
structure NmOk (a:AU) (l:Lg) (cl:Le) (n:Nat) (f:Nat->Nat):Prop where
 ok:OkL a
 len:cl.length=a.2.2.length
 at':∀ s∈l,∃h:s<cl.length,cl[s]=(f s:Nat)
 lt:∀ s∈l,s<a.2.2.length/\f s<n
 sur:∀ k,k<n->∃ s∈l,f s=k
 cls:∀ s∈l,∀b,b<256->dA a s b∈l
 st:a.1.toNat∈l
 n1:n<=90000
 l1:l.length<=90000
def atL(n:Nat)(l:Lg)(f:Nat->Nat):Le:=(List.range n).map λk=>((repM l f k:Nat):Int)
theorem fi(n:Nat)(l:Lg)(f:Nat->Nat):(atL n l f).length=n:=by unfold atL;rw[Gu,Hg]
theorem xG(h:k<n):∃ a:k<(atL n l f).length,(atL n l f)[k]=(repM l f k:Nat):=by refine⟨by rw[fi];exact h,?_⟩;unfold atL;rw[II,Jc]
theorem F9(n:Nat)(f:Nat->Nat):atL n [] f=List.replicate n 0:=by unfold atL;rw[JI];refine⟨by simp,λx a=>?_⟩;obtain⟨k,_,rfl⟩:=Gv.1 a;rfl
theorem uU(x:Nat)(l:Lg)(f:Nat->Nat)(k:Nat):repM (x::l) f k=if f x=k then x else repM l f k:=by unfold repM;rw[List.find?_cons];by_cases h:f x=k<;>simp[h]
theorem Ag{x:Nat}(h:f x<n):(atL n l f).set (f x) (x:Nat)=atL n (x::l) f:=by refine Ji (by rw[GF,fi,fi]) λi a d=>?_;rw[GF,fi]at a;obtain⟨j,c⟩:=xG (n:=n) (l:=l) (f:=f) a;obtain⟨g,b⟩:=xG (n:=n) (l:=x::l) (f:=f) a;rw[b,uU,List.getElem_set];by_cases e:f x=i;rw[E' e,E' e];rw[C' e,C' e,c]
theorem XNu_ok{O:AU}(h:OkL O):(XNu (λs l1 l2=>s=O.1/\l1=blV O.2.1/\l2=roV O.2.2) (inF (rfL (dA O) O.1.toNat))).Ok:=⟨am,aE,ap,.cons (mh_tab h) .nil⟩
def clA(a:AU)(l:Lg)(n:Nat)(f:Nat->Nat):AU:=((f a.1.toNat:Nat),(List.range n).map (λk=>acN a.2.1 (repM l f k)),(List.range n).map λk=>inF (scM (dA a) l f k))
theorem NmOk.rep{a:AU}{cl:Le}(h:NmOk a l cl n f)(b:k<n):repM l f k∈l/\f (repM l f k)=k:=fL (h.sur k b)
theorem FM{a:AU}(b:k<n):∃ c:k<(clA a l n f).2.2.length,(clA a l n f).2.2[k]=inF (scM (dA a) l f k):=by refine⟨by show k<((List.range n).map _).length;rw[Gu,Hg];exact b,?_⟩;have e:(clA a l n f).2.2=(List.range n).map λk=>inF (scM (dA a) l f k):=rfl;rw[Ju e,II,Jc]
theorem CB(δ :Nat->Nat->Nat)(l:Lg)(f:Nat->Nat)(k:Nat):(scM δ l f k).length=256:=by unfold scM;rw[Gu,Hg]
theorem xo(a:AU)(l:Lg)(n:Nat)(f:Nat->Nat):(clA a l n f).2.2.length=n/\(clA a l n f).2.1.length=n:=by refine⟨?_,?_⟩;show((List.range n).map _).length=n;rw[Gu,Hg];show((List.range n).map _).length=n;rw[Gu,Hg]
theorem NmOk.ent{a:AU}{cl:Le}(h:NmOk a l cl n f)(d:k<n):∀ x∈scM (dA a) l f k,x<n:=λx b=>by unfold scM at b;obtain⟨c,e,rfl⟩:=Gv.1 b;exact(h.lt _ (h.cls _ (h.rep d).1 c (Hv.1 e))).2
theorem NmOk.okL{a:AU}{cl:Le}(h:NmOk a l cl n f):OkL (clA a l n f):=by obtain⟨c,m⟩:=xo a l n f;have j:=h.n1;have i:=(h.lt _ h.st).2;refine⟨by omega,by omega,by omega,λr b=>?_,⟨by show(0:Int)<=(f a.1.toNat:Nat);omega,by rw[c];show((f a.1.toNat:Nat):Int)<n;omega⟩,λr b x e=>?_⟩;obtain⟨k,_,rfl⟩:=Gv.1 b;rw[ao,CB];obtain⟨k,g,rfl⟩:=Gv.1 b;obtain⟨y,d,rfl⟩:=Gv.1 e;have:=h.ent (Hv.1 g) y d;rw[c];show(0:Int)<=(y:Int)/\(y:Int)<n;omega
theorem NmOk.dA{a:AU}{cl:Le}(h:NmOk a l cl n f)(j:k<n):scR (Go.T9.dA (clA a l n f)) k=scM (Go.T9.dA a) l f k:=by
 obtain⟨i,g⟩:=FM (a:=a) (l:=l) (f:=f) j;unfold scR scM;refine GT λc b=>?_;have b:=Hv.1 b;obtain⟨s1,d,m⟩:=h.okL.at' i b;have e:(clA a l n f).2.2[k][c]=((f (Go.T9.dA a (repM l f k) c):Nat):Int):=by rw[Ju g];unfold inF scM;rw[II,II,Jc];rfl
 rw[e]at d;omega
theorem NmOk.ord{a:AU}{cl:Le}(h:NmOk a l cl n f):rfL (Go.T9.dA (clA a l n f)) (f a.1.toNat)=bfsK (scM (Go.T9.dA a) l f) 90001 [f a.1.toNat] 0:=by
 have:=(np (φ :=id) (P:=λk=>k<n) (λa b _ _ e=>e) (sc:=scR (Go.T9.dA (clA a l n f))) (sc2:=scM (Go.T9.dA a) l f) (λk d=>by rw[HZ];exact(h.dA d).symm) (λk d x c=>by rw[h.dA d]at c;exact h.ent d x c) 90001 [f a.1.toNat] 0 (λx c=>by rw[GZ.1 c];exact(h.lt _ h.st).2)).1
 rw[HZ,HZ]at this;exact this.symm
end
end Go.T9
set_option maxHeartbeats 400000
namespace Go.T9
open Go Go.AM Go.MK Go.HK
noncomputable section
variable {P:Int->Lh->Lh->Prop}{K:KV}{q:Le}{l:Lg}{n:Nat}{f:Nat->Nat}
theorem y3(B:(XNu P q).Ok){a:AU}{cl:Le}(h:NmOk a l cl n f)
 (o:LAtZ (XNu P q) 1 nNu (hNu0 (inF l) cl) bNu pN2 (cz K) (frN2 cl.length n (atL n l f).length 0) (hN2 (inF l) cl a.1 a.2.1 a.2.2 (atL n l f) (f a.1.toNat:Nat) [] [])):
 LAtZ (XNu P q) 1 nNu (hNu0 (inF l) cl) bNu pN1 (cz K) (frN1 cl.length n (atL n [] f).length (inF l).length ((l.length:Int)-1)) (hN1 (inF l) cl a.1 a.2.1 a.2.2 (atL n [] f)):=by
 have v:=ao l;have w:=h.l1;have u:=h.n1;have t:=h.ok.st;refine LAtZ.stepF B [] [] [] slN1 (by kernel_rfl) (λm G A=>∃ z:Int,z=(m:Int)-1/\G=frN1 cl.length n (atL n (l.drop m) f).length (inF l).length z/\A=hN1 (inF l) cl a.1 a.2.1 a.2.2 (atL n (l.drop m) f)/\m<=l.length) ?_ (k:=l.length) ⟨_,rfl,by rw[List.drop_length],by rw[List.drop_length],GE _⟩;rintro m G A ⟨z,E,rfl,rfl,F⟩;have y:=fi n (l.drop m) f;refine(jN1_nf _ _ P q (inF l) cl n a.1 a.2.1 a.2.2 (atL n (l.drop m) f) z).mpr (Sp.intro (λc=>?_) (λc=>?_));have c:=odt c;obtain⟨i,rfl⟩:∃ i,m=i+1:=⟨m-1,by omega⟩;obtain rfl:z=(i:Int):=by omega
 have d:i<l.length:=by omega
 have b:i<(inF l).length:=by omega
 have C:aa (inV (inF l)) (i:Int)=(l[i]:Nat):=by rw[aq b,bF d]
 have r:nth (inV (inF l)) i=some (Vi (l[i]:Nat)):=by rw[aP b,bF d]
 obtain⟨g,e⟩:=h.at' _ (Gy d);obtain⟨H,D⟩:=h.lt _ (Gy d);have hd:l.drop i=l[i]::l.drop (i+1):=Hj d;generalize l[i]=x at*;have p:aa (inV cl) (x:Int)=(f x:Nat):=by rw[aq g,e]
 have j:nth (inV cl) x=some (Vi (f x:Nat)):=by rw[aP g,e]
 have s:=Ag (n:=n) (l:=l.drop (i+1)) (f:=f) D;rw[<-hd]at s;simp only[Gs,GP];rw[C];simp only[Gs,GP];rw[p];simp only[Gs,GP];rw[ce,s,aA (x:=(i:Int)-1) (by omega) (by omega)];refine⟨⟨by omega,by omega⟩,r,⟨by omega,by omega⟩,j,⟨by omega,by omega⟩,r,⟨by omega,by omega⟩,by rw[ah];omega,ab _,ab _,.dat (aN _),.dat (aK _),ab _,i,by omega,(i:Int)-1,rfl,?_,rfl,by omega⟩;rw[fi,fi];rfl;have c:=odf c;obtain rfl:m=0:=by omega
 obtain⟨g,e⟩:=h.at' _ h.st;have p:aa (inV cl) ((Int.toNat a.1+0:Nat):Int)=(f a.1.toNat:Nat):=by rw[GP,aq g,e]
 have j:nth (inV cl) (Int.toNat ((Int.toNat a.1+0:Nat):Int))=some (Vi (f a.1.toNat:Nat)):=by rw[Gs,GP,aP g,e]
 rw[p];refine⟨⟨by omega,by omega⟩,j,ab _,ab _,.dat (aN _),.dat (aK _),ab _,aC [],aH [],?_⟩;exact o
theorem jF(f:Nat->Nat)(c:Nat):(List.range (c+1)).map f=(List.range c).map f++[f c]:=by rw[IB,GM];rfl
def rowF(g:Nat->Nat)(b:Nat):Le:=inF ((List.range b).map g)++List.replicate (256-b) 0
theorem iV(g:Nat->Nat){b:Nat}(h:b<=256):(rowF g b).length=256:=by unfold rowF;rw[Gr,ao,Gu,Hg,Hi];omega
theorem qU(g:Nat->Nat){b:Nat}(h:b<256):(rowF g b).set b (g b:Nat)=rowF g (b+1):=by
 unfold rowF;have e:(inF ((List.range b).map g)).length=b:=by rw[ao,Gu,Hg]
 have:=jE (inF ((List.range b).map g)) (256-b) (g b:Nat) (by omega);rw[e]at this;rw[this,jF,gA,show 256-b-1=256-(b+1)by omega]
theorem qV(g:Nat->Nat):rowF g 256=inF ((List.range 256).map g):=by unfold rowF;simp
theorem yZ{again2:KF}(V:(XNu P q).Ok){a:AU}{cl:Le}(h:NmOk a l cl n f){k:Nat}(C:k<n){c0:Int}{i:Li}{g:La}(ho:i.length<=90000)(hn:g.length<=90000)
 (d:again2 (frN2 cl.length n (atL n l f).length (k+1)) (hN2 (inF l) cl a.1 a.2.1 a.2.2 (atL n l f) c0 (i++[acN a.2.1 (repM l f k)]) (g++[inF (scM (dA a) l f k)]))):
 LAtZ (XNu P q) 1 nNu (hNu0 (inF l) cl) (ak (subC pN2 bNu)) pN3 (kN2 K again2 P q (inF l) cl) (frN3 cl.length n (atL n l f).length k 256 0) (hN3 (inF l) cl a.1 a.2.1 a.2.2 (atL n l f) c0 i g (List.replicate 256 0)):=by
 have O:=ao l;have Q:=h.l1;have N:=h.n1;have U:=fi n l f;obtain⟨I,H⟩:=xG (l:=l) (f:=f) C;obtain⟨z,r2⟩:=h.rep C;obtain⟨p,t2⟩:=h.lt _ z;have u:=h.cls _ z;have s:scM (dA a) l f k=(List.range 256).map λc=>f (dA a (repM l f k) c):=rfl;rw[s]at d;have R:=h.ok.acc;generalize repM l f k=x at*;have D:aa (inV (atL n l f)) (k:Int)=(x:Nat):=by rw[aq I,H]
 have B:nth (inV (atL n l f)) k=some (Vi (x:Nat)):=by rw[aP I,H]
 refine LAtZ.stepF V [] [] [] slN3 (by kernel_rfl) (λm G A=>∃ b:Nat,G=frN3 cl.length n (atL n l f).length k (rowF (λc=>f (dA a x c)) b).length b/\A=hN3 (inF l) cl a.1 a.2.1 a.2.2 (atL n l f) c0 i g (rowF (λc=>f (dA a x c)) b)/\b+m=256) ?_ (k:=256) ⟨0,rfl,rfl,rfl⟩;rintro m G A ⟨b,rfl,rfl,S⟩;have o:=iV (λc=>f (dA a x c)) (b:=b) (by omega);have l2:=aL a.2.2;refine(jN3_nf _ _ _ P q (inF l) cl n a.1 a.2.1 a.2.2 (atL n l f) c0 i g k (rowF (λc=>f (dA a x c)) b) b).mpr (Sp.intro (λc=>?_) (λc=>?_));have c:=odt c;have v:b<256:=by omega
 obtain⟨s1,y,s3⟩:=h.ok.at' p v;have t:=u b v;obtain⟨F,E⟩:=h.at' _ t;have w:ae (roV a.2.2) (x:Int)=inV a.2.2[x]:=bM p;have r:nth (roV a.2.2) x=some (Vd 1 (inV a.2.2[x])):=cK p;have Z:aa (inV a.2.2[x]) (b:Int)=(dA a x b:Nat):=by rw[aq s1,y]
 have L:nth (inV a.2.2[x]) b=some (Vi (dA a x b:Nat)):=by rw[aP s1,y]
 have Y:aa (inV cl) ((dA a x b:Nat):Int)=(f (dA a x b):Nat):=by rw[aq F,E]
 have J:nth (inV cl) (dA a x b)=some (Vi (f (dA a x b):Nat)):=by rw[aP F,E]
 have l1:(inV a.2.2[x]).length=a.2.2[x].length:=ah _;have j:=qU (λc=>f (dA a x c)) v;rw[D];simp only[Gs,GP];rw[w,Z,l1,l2];simp only[Gs,GP];rw[Y,ce,j,o,aA (x:=(b:Int)+1) (by omega) (by omega)];refine⟨⟨by omega,by omega⟩,B,⟨by omega,by omega⟩,r,⟨by omega,by omega⟩,L,⟨by omega,by omega⟩,J,⟨by omega,by omega⟩,by rw[ah,o];omega,ab _,ab _,.dat (aN _),.dat (aK _),ab _,ab _,aC _,aH _,m-1,by omega,b+1,?_,rfl,by omega⟩;rw[iV _ (by omega)];rfl;have c:=odf c;obtain rfl:b=256:=by omega
 have e:x<a.2.1.length:=by omega
 have w:aG (blV a.2.1) (x:Int)=acN a.2.1 x:=by rw[bv e];unfold acN;rw[gD e]
 have r:nth (blV a.2.1) x=some (.bool (acN a.2.1 x)):=by rw[di e];unfold acN;rw[gD e]
 have M:=bc a.2.1;rw[D];simp only[Gs,GP];rw[w,nk,qV,M,aA (x:=(k:Int)+1) (by omega) (by omega)];refine⟨⟨rfl,by rw[aL],by omega,by omega⟩,⟨by omega,by omega⟩,B,⟨by omega,by omega⟩,r,⟨rfl,by rw[bc],by omega,by omega⟩,by rw[ah],ab _,ab _,.dat (aN _),.dat (aK _),ab _,aC _,?_,?_⟩;exact(eQ g _)▸aH _;have X:roV g++[Vd 1 (inV (inF ((List.range 256).map λc=>f (dA a x c))))]=roV (g++[inF ((List.range 256).map λc=>f (dA a x c))]):=eQ _ _;rw[X];unfold hN2 at d;rw[Gr,Gr]at d;exact d
theorem kQ{a :Type}(f:Nat-> a)(c:Nat):(List.range (c+1)).map f=(List.range c).map f++[f c]:=by rw[IB,GM];rfl
theorem x4:HF (.agg ⟨inV z256⟩):=ab _
theorem y0(g:(XNu P q).Ok){a:AU}{cl:Le}(h:NmOk a l cl n f){c0:Int}(r:P c0 (blV (clA a l n f).2.1) (roV (clA a l n f).2.2))
 (e:LAtZ (XNu P q) 1 nNu (hNu0 (inF l) cl) bNu pN4 (cz K) (frN4 q.length n 0) (hN4 (inF l) cl c0 (clA a l n f).2.1 (clA a l n f).2.2 q (List.replicate n 0))):
 LAtZ (XNu P q) 1 nNu (hNu0 (inF l) cl) bNu pN2 (cz K) (frN2 cl.length n (atL n l f).length 0) (hN2 (inF l) cl a.1 a.2.1 a.2.2 (atL n l f) c0 [] []):=by
 have j:=h.n1;refine LAtZ.stepF g nsN2 [.cell 11 2] [] slN2 (by kernel_rfl) (λm G A=>∃ i:Nat,G=frN2 cl.length n (atL n l f).length i/\A=hN2 (inF l) cl a.1 a.2.1 a.2.2 (atL n l f) c0 ((List.range i).map λk=>acN a.2.1 (repM l f k)) ((List.range i).map λk=>inF (scM (dA a) l f k))/\i+m=n) ?_ (k:=n) ⟨0,rfl,rfl,by omega⟩;rintro m G A ⟨i,rfl,rfl,o⟩;have d:((List.range i).map λk=>acN a.2.1 (repM l f k)).length=i:=by rw[Gu,Hg]
 have b:((List.range i).map λk=>inF (scM (dA a) l f k)).length=i:=by rw[Gu,Hg]
 refine(jN2_nf _ _ P q (inF l) cl n a.1 a.2.1 a.2.2 (atL n l f) c0 _ _ i).mpr (Sp.intro (λc=>?_) (λc=>?_));have c:=odt c;have p:i<n:=by omega
 refine⟨⟨by omega,by omega,by omega,by omega⟩,ab _,ab _,.dat (aN _),.dat (aK _),ab _,x4,aC _,aH _,?_⟩;refine yZ g h p (by rw[d];omega) (by rw[b];omega) ?_;refine⟨m-1,by omega,i+1,rfl,?_,by omega⟩;rw[kQ (λk=>acN a.2.1 (repM l f k)),kQ (λk=>inF (scM (dA a) l f k))];have c:=odf c;obtain rfl:i=n:=by omega
 have t:((List.range i).map λk=>acN a.2.1 (repM l f k))=(clA a l i f).2.1:=rfl;have s:((List.range i).map λk=>inF (scM (dA a) l f k))=(clA a l i f).2.2:=rfl;rw[t,s];rw[Gs,e7];refine⟨⟨aC _,aH _,ab _,aC _,aH _,⟨⟨rfl,rfl⟩,⟨by rw[bc],by rw[aL]⟩,r⟩⟩,⟨by omega,by omega,by omega,by omega⟩,ab _,ab _,ab _,ab _,aC _,aH _,?_⟩;exact e
end
end Go.T9
