/- A part of the proof. -/
import Derived.Test.YtegefclhhjbfhaaGreatDoorY1
set_option linter.unusedVariables false
set_option linter.unusedSimpArgs false
set_option maxRecDepth 1000000
namespace Go.T9
open Go Go.AM Go.MK Go.HK Go.Proofs.Tryz
noncomputable section
def dU8:Value->UInt8
 | .int .u8 x=>UInt8.ofNat x.toNat
 |_=>0
variable {l:Lg}{k n:Nat}
theorem jB(l:LB):(u8v l).map dU8=l:=by
 unfold u8v;rw[H4];conv=>rhs;rw[<-IC l]
 refine HQ λx _=>?_;show UInt8.ofNat ((x.toNat:Int).toNat)=x;rw[D'];simp
def fbL(l:Lh)(x:Int):LB:=l.map dU8++dg36 3 x.toNat
theorem Bv(l:LB):aQ [.gro (u8v l) [] 5]=hU l:=by kernel_rfl
theorem wB(l:LB):aQ [.dead,.gro (u8v l) [] 5]=hUE l:=by kernel_rfl
def spFb:Lh->List AObj->Option (Ll×Value×List AObj)
 | [.slice (some ⟨B,o,none⟩) n k,.int .u64 x,.int .i64 b,.bool f,.bool g],[.gro l t e]=>
   bif ((Nat.beq B 0&&Nat.beq o 0)&&(Nat.beq k (unk+3+1)&&Nat.beq e 5))&&((!f&&g)&&decide (b=36))then
    some (some (t=[]/\l=u8v (l.map dU8)/\n=l.length/\(0<=x/\x<1679616)/\l.length<=100000000),fbV (fbL l x).length,[.dead,.gro (u8v (fbL l x)) [] e])else none
 |_,_=>none
theorem fb_tab:∀ args A p v A',frmR noAr spFb args A=some (p,v,A')->PH p->CallAt env 111 args A v A':=aS ai (fn:=f111) rfl λargs c p v a h i=>by unfold spFb at h;split at h;rename_i B o n k x b f g l t e;obtain⟨d,h⟩:=bl h;simp only[Hs]at h;obtain⟨rfl,rfl,rfl⟩:=h;simp only[f',Hy,HL,JA]at d;obtain⟨⟨⟨rfl,rfl⟩,rfl,rfl⟩,⟨rfl,rfl⟩,rfl⟩:=d;obtain⟨rfl,m,rfl,⟨s,r⟩,q⟩:t=[]/\l=u8v (l.map dU8)/\n=l.length/\(0<=x/\x<1679616)/\l.length<=100000000:=i;have j:(l.map dU8).length=l.length:=Hp _;unfold fbL;generalize l.map dU8=L at*;subst m;obtain⟨y,rfl⟩:∃ y:Nat,x=y:=⟨x.toNat,by omega⟩;rw[D'];have:=F4 L y (by omega) (by omega);rw[<-Bv,<-wB]at this;rw[<-j];exact this;cases h
noncomputable def nKt:Nat:=Func.ntmps f54
noncomputable def bKt:Code:=ay f54
def elKt:El:={El.of (λ_ _ els i=>some (.int .i64 (aa els i)))with app:=true,gm:=λ_=>true}
def nsKt:List (NPos×TypeId×Nat):=[(.slot 3,5,1)]
def XKt:SX:=⟨env,[(111,frmR noAr spFb)],elKt,λ_=>.autoN nsKt [] [] [0,3,4]⟩
def kFinKt(K:KV):KX:=finK XKt.E (f54.results).toList K
def hKt0(r:Le):AH:=⟨(Nd Lf (some (groI r)) Lf),1⟩
def hKt(r:Le)(l:LB):AH:=⟨(Nd (Nd Lf (some (.gro (u8v l) [] 5)) Lf) (some (groI r)) Lf),2⟩
def frKt(n m i:Nat):T Value:=(Nd (Nd (Nd Lf (some (groS 1 m)) Lf) none Lf) (some (groS 0 n)) (Nd (Nd Lf (some (.int .i64 i)) Lf) none Lf))
def jKt(K:KV)(r:Le):Prop:=aN XKt 5 f54 [groS 0 r.length] (hKt0 r) K
def jKtL(K:KV)(a:KF)(r:Le)(l:LB)(i:Nat):Prop:=aI XKt 5 nKt (hKt0 r) bKt [1,1,0,1,0] (kFinKt K) nsKt [] [] [0,3,4] a (frKt r.length l.length i) (hKt r l)
set_option maxHeartbeats 400000
theorem jKt_nf(K:KV)(r:Le):jKt K r=(HF (Value.agg (Array.mk (inV r)))/\HF (Value.agg ⟨[]⟩)/\LAtZ XKt 5 f54.ntmps (hKt0 r) (ay f54) [1,1,0,1,0] (finK (SX.E XKt) f54.results.toList K) (Ns (No (Sg (Value.slice (some ⟨1,0,none⟩) 0 18446744073709551620)) Lf) (Value.slice (some ⟨0,0,none⟩) (List.length r) 18446744073709551620) (No (Sg (Vi 0)) Lf)) (AH.mk (Ns (Sg (AObj.gro [] [] 5)) (AObj.gro (inV r) [] 3) Lf) 2)):=by kernel_rfl
abbrev U_:=λa=>List.map dU8 (u8v a)
abbrev KE:=λa=>IntKind.wrap .u64 (0-IntKind.wrap .u64 a)
abbrev Oo(a:LB):Prop:=(List.all [A_ 45] cellv=true/\List.length a+0=List.length (u8v a)/\List.length a+(1:Nat)<=(70368744177664:Nat)/\(List.length a+1)*(1:Nat)<=(140737488355328:Nat))
theorem MA(K:KV)(a:KF)(r:Le)(l:LB)(i:Nat):jKtL K a r l i=(Sp (decide ((i:Int)<I_ r.length)) (Oa i r/\nth (inV r) i=some (Vi (P_ r i))/\Sp (decide (aa (inV r) (i:Int)<0)) (Oo l/\HFs [d_ (u8v l++[A_ 45]),d_ (u8v (fbL (u8v l++[A_ 45]) (KE (P_ r i))))] (([]:Lh)=[]/\u8v l++[A_ 45]=u8v (List.map dU8 (u8v l++[A_ 45]))/\List.length l+1=List.length (u8v l++[A_ 45])/\(0<=IntKind.wrap .u64 (0-IntKind.wrap .u64 (P_ r i))/\IntKind.wrap .u64 (0-IntKind.wrap .u64 (P_ r i))<1679616)/\List.length (u8v l++[A_ 45])<=100000000)/\(List.all [A_ 32] cellv=true/\List.length (fbL (u8v l++[A_ 45]) (KE (P_ r i)))+0=List.length (u8v (fbL (u8v l++[A_ 45]) (KE (P_ r i))))/\List.length (fbL (u8v l++[A_ 45]) (KE (P_ r i)))+(1:Nat)<=(70368744177664:Nat)/\(List.length (fbL (u8v l++[A_ 45]) (KE (P_ r i)))+1)*(1:Nat)<=(140737488355328:Nat))/\F_ r/\Kt (u8v (fbL (u8v l++[A_ 45]) (KE (P_ r i)))++[A_ 32])/\a (Ns (H_ (g_ 1 0 (List.length (fbL (u8v l++[A_ 45]) (KE (P_ r i)))+1))) (LA r.length) (No (x_ ((i:Int)+1)) Lf)) (AH.mk (Kw (Lu (u8v (fbL (u8v l++[A_ 45]) (KE (P_ r i)))++[A_ 32]) 5) (f_ r)) 2)) (HFs [d_ (u8v l),d_ (u8v (fbL (u8v l) (LL (P_ r i))))] (([]:Lh)=[]/\u8v l=u8v (U_ l)/\List.length l=List.length (u8v l)/\(0<=IntKind.wrap .u64 (P_ r i)/\IntKind.wrap .u64 (P_ r i)<1679616)/\List.length (u8v l)<=100000000)/\(List.all [A_ 32] cellv=true/\List.length (fbL (u8v l) (LL (P_ r i)))+0=List.length (u8v (fbL (u8v l) (LL (P_ r i))))/\List.length (fbL (u8v l) (LL (P_ r i)))+(1:Nat)<=(70368744177664:Nat)/\(List.length (fbL (u8v l) (LL (P_ r i)))+1)*(1:Nat)<=(140737488355328:Nat))/\F_ r/\Kt (u8v (fbL (u8v l) (LL (P_ r i)))++[A_ 32])/\a (Ns (H_ (g_ 1 0 (List.length (fbL (u8v l) (LL (P_ r i)))+1))) (LA r.length) (No (x_ ((i:Int)+1)) Lf)) (AH.mk (Kw (Lu (u8v (fbL (u8v l) (LL (P_ r i)))++[A_ 32]) 5) (f_ r)) 2))) (IsB (u8v l) 0 (k_ l)/\K (Vs (av (u8L (u8v l) 0 (k_ l)))) (AH.mk (Kw (Lu (u8v l) 5) (f_ r)) 2))):=by kernel_rfl
theorem Eh:type_of%(by have h:=@MA;revert h;delta Oo Oa b_ d_ f_ g_ k_ l_ x_ A_ F_ H_ I_ P_ U_ Kt Kw KE Lu LA LL;exact id):=@MA
theorem BT:XKt.Ok:=⟨ai,aD,am,.cons fb_tab .nil⟩
theorem fbL_u(l:LB)(x:Nat):fbL (u8v l) (x:Int)=l++dg36 3 x:=by unfold fbL;rw[jB,D']
theorem qn:∀ f n,(dg36 f n).length<=f+1
 |0,n=>by simp[dg36]
 |f+1,n=>by unfold dg36;split;simp;have:=qn f (n/36);grind
theorem rA:∀ l:Lg,(keyB l).length<=5*l.length
 | []=>Hw _
 |x::l=>by have:=rA l;have a:=qn 3 x;show((dg36 3 x++[32])++keyB l).length<=_;grind
theorem v8{R:Lg}{i:Nat}(h:i<R.length):keyB (R.take (i+1))=(keyB (R.take i)++dg36 3 R[i])++[32]:=by
 rw[HC h,zG,Im];have:keyB [R[i]]=dg36 3 R[i]++[32]:=by simp[keyB]
 rw[this]
theorem isB_u(l:LB):IsB (u8v l) 0 l.length/\u8L (u8v l) 0 l.length=l:=by
 have a:(u8v l).length=l.length:=Hp _;have e:((u8v l).drop 0).take l.length=u8v l:=by grind
 refine⟨⟨l,e,rfl⟩,?_⟩;unfold u8L;rw[e];unfold u8v;rw[H4];conv=>rhs;rw[<-IC l]
 refine HQ λb _=>?_;simp_all
theorem end_kt(Q:Value->AH->Prop)(r:Le)(l:LB)(s:ByteArray):endF env (hKt0 r) [] [] [] Q (.string s) (hKt r l)=(HF (.agg ⟨inV r⟩)/\Q (.string s) (hKt0 r)):=by kernel_rfl
theorem DM(R:Lg)(r:∀ x∈R,x<1679616)(y:R.length<=100000):WalkF env f54 [groS 0 (inF R).length] (hKt0 (inF R)) (.string (av (keyB R))) (hKt0 (inF R)):=by
 have e:=ao R;refine aC BT (d:=5) (ns:=[]) (zs:=[]) (ws:=[]) ((jKt_nf _ (inF R)).mpr ⟨ab _,aX [],?_⟩);refine LAtZ.stepF BT nsKt [] [] [0,3,4] (by kernel_rfl) (λm G A=>∃ i:Nat,G=frKt (inF R).length (keyB (R.take i)).length i/\A=hKt (inF R) (keyB (R.take i))/\i+m=R.length) ?_ (k:=R.length) ⟨0,rfl,rfl,by omega⟩;rintro m G A ⟨i,rfl,rfl,p⟩;have h:=rA (R.take i);rw[Ic]at h;refine(Eh _ _ (inF R) (keyB (R.take i)) i).mpr (Sp.intro (λc=>?_) (λc=>?_));have c:=odt c;rw[e]at c;have f:i<R.length:=by omega
 have b:i<(inF R).length:=by omega
 have w:=r _ (Hq f);have j:=v8 f;have hd:=qn 3 R[i];have u:aa (inV (inF R)) (i:Int)=(R[i]:Nat):=by rw[aA b,bD f]
 have o:nth (inV (inF R)) i=some (Vi (R[i]:Nat)):=by rw[aL b,bD f]
 generalize R[i]=x at*;generalize keyB (R.take i)=l at*;have g:(u8v l).length=l.length:=Hp _;have t:IntKind.wrap .u64 ((x:Nat):Int)=x:=qz (by omega) (by omega);have q:(l++dg36 3 x).length=l.length+(dg36 3 x).length:=E';have a:(u8v (l++dg36 3 x)).length=(l++dg36 3 x).length:=Hp _;have s:u8v (l++dg36 3 x)++[Value.int .u8 32]=u8v ((l++dg36 3 x)++[32]):=(eW _ [32]).symm;rw[u];refine⟨⟨by omega,by omega⟩,o,Sp.intro (λd=>absurd (odt d) (by omega)) (λd=>?_)⟩;rw[t,fbL_u,s,aF (x:=(i:Int)+1) (by omega) (by omega)];refine⟨⟨aX _,aX _,⟨rfl,by rw[jB],by rw[g],⟨by omega,by omega⟩,by omega⟩⟩,⟨rfl,by rw[a,HN],by omega,by omega⟩,ab _,aX _,m-1,by omega,i+1,?_,?_,by omega⟩;rw[j,E' (bs:=[32])];rfl;rw[j];rfl;have c:=odf c;rw[e]at c;obtain rfl:i=R.length:=by omega
 rw[HX];obtain⟨v,b2⟩:=isB_u (keyB R);refine⟨v,?_⟩;rw[b2];exact(end_kt _ (inF R) (keyB R) (av (keyB R))).mpr ⟨ab _,rfl,rfl⟩
def toN(l:Lh):Lg:=(l.map deI).map Int.toNat
theorem toN_in(R:Lg):toN (inV (inF R))=R:=by
 unfold toN;rw[cX];unfold inF;rw[H4];conv=>rhs;rw[<-IC R]
 grind [HQ,D']
theorem Fk(r:Le):aQ [groI r]=hKt0 r:=by kernel_rfl
def spKt:Lh->List AObj->Option (Ll×Value×List AObj)
 | [.slice (some ⟨B,o,none⟩) n k],[.gro l t e]=>
   bif (Nat.beq B 0&&Nat.beq o 0)&&(Nat.beq k (unk+3+1)&&Nat.beq e 3)then
    some (some (t=[]/\l=inV (inF (toN l))/\n=l.length/\(∀x∈toN l,x<1679616)/\l.length<=100000),.string (av (keyB (toN l))),[.gro l [] e])else none
 |_,_=>none
theorem kt_tab:∀ args A p v A',frmR noAr spKt args A=some (p,v,A')->PH p->CallAt env 54 args A v A':=aS ai (fn:=f54) rfl λargs c p v a h f=>by unfold spKt at h;split at h;rename_i B o n k l t e;obtain⟨d,h⟩:=bl h;simp only[Hs]at h;obtain⟨rfl,rfl,rfl⟩:=h;simp only[f',Hy]at d;obtain⟨⟨rfl,rfl⟩,rfl,rfl⟩:=d;obtain⟨rfl,i,rfl,g,b⟩:t=[]/\l=inV (inF (toN l))/\n=l.length/\(∀x∈toN l,x<1679616)/\l.length<=100000:=f;generalize toN l=R at*;subst i;rw[af]at b ⊢;have:=DM R g (by rw[ao]at b;exact b);rw[<-Fk]at this;exact this;cases h
noncomputable def nNu:Nat:=Func.ntmps f55
noncomputable def bNu:Code:=ay f55
def elNu:El:={elT [69,134] [91,156]with app:=true,gm:=λ_=>true}
def nsN2:List (NPos×TypeId×Nat):=[(.cell 11 1,4,1),(.cell 11 2,49,1)]
def nsN5:List (NPos×TypeId×Nat):=[(.cell 18 1,4,1),(.cell 18 2,49,1)]
def slN1:Lg:=[1,2,3,4,8,9,10]
def slN2:Lg:=[2,3,4,8,9,11,12]
def slN3:Lg:=[2,3,4,8,9,11,12,13,14]
def slN4:Lg:=[8,11,15,16,17]
def slN5:Lg:=[8,11,15,16,18,19]
def slN6:Lg:=[8,11,15,16,18,19,20,21]
def pN1:Lg:=[1,1,0,1,0]
def pN2:Lg:=[1,1,1,1,0,1,0]
def pN3:Lg:=[1,0,0,1,0,1,0]
def pN4:Lg:=[1,1,1,1,1,1,1,0,1,0]
def pN5:Lg:=[1,1,1,1,1,1,1,1,1,0,1,0]
def pN6:Lg:=[1,0,0,1,0,1,0]
def XNu(P:Int->Lh->Lh->Prop)(q:Le):SX:=⟨env,[(53,frmR noAr (spMh P q))],elNu,λk=>bif Nat.beq k 3 then .autoN [] [] [] slN1 else bif Nat.beq k 8 then .autoN nsN2 [.cell 11 2] [] slN2 else bif Nat.beq k 12 then .autoN [] [] [] slN3 else bif Nat.beq k 20 then .autoN [] [] [] slN4 else bif Nat.beq k 25 then .autoN nsN5 [.cell 18 2] [] slN5 else .autoN [] [] [] slN6⟩
def cu(K:KV):KX:=finK env (f55.results).toList K
def hNu0(L a:Le):AH:=⟨(Nd (Nd Lf (some (groI a)) Lf) (some (groI L)) Lf),2⟩
def frN1(m n:Nat)(k:Nat)(a:Nat)(i:Int):T Value:=(Nd (Nd (Nd Lf (some (.int .i64 n)) Lf) (some (groS 0 a)) (Nd (Nd Lf (some (groS 4 k)) Lf) none Lf)) none (Nd (Nd (Nd Lf (some (.pointer (some ⟨3,0,none⟩))) Lf) (some (.pointer (some ⟨2,0,none⟩))) Lf) (some (groS 1 m)) (Nd (Nd Lf (some (.int .i64 i)) Lf) none Lf)))
def hN1(L b:Le)(s:Int)(d:Li)(c:La)(a:Le):AH:=⟨(Nd (Nd (Nd Lf (some (.cells [.int .i64 0,nilS,nilS] 25)) Lf) (some (groI b)) Lf) (some (groI L)) (Nd (Nd Lf (some (groI a)) Lf) (some (auC s d c)) Lf)),5⟩
def frN2(m n k:Nat)(i:Nat):T Value:=(Nd (Nd (Nd Lf (some (.int .i64 n)) (Nd Lf (some (.pointer (some ⟨5,0,none⟩))) Lf)) none (Nd (Nd Lf (some (groS 4 k)) Lf) none Lf)) none (Nd (Nd (Nd Lf (some (.pointer (some ⟨3,0,none⟩))) Lf) (some (.pointer (some ⟨2,0,none⟩))) (Nd Lf (some (.int .i64 i)) Lf)) (some (groS 1 m)) Lf))
def hN2(L e:Le)(s:Int)(d:Li)(g:La)(f:Le)(c:Int)(b:Li)(a:La):AH:=⟨(Nd (Nd (Nd (Nd Lf (some (groR a)) Lf) (some (.cells [.int .i64 0,nilS,nilS] 25)) Lf) (some (groI e)) (Nd Lf (some (.cells [.int .i64 c,groS 6 b.length,groS 7 a.length] 25)) Lf)) (some (groI L)) (Nd (Nd Lf (some (groI f)) Lf) (some (auC s d g)) (Nd Lf (some (groB b)) Lf))),8⟩
def frN3(m n k:Nat)(i:Nat)(r b:Nat):T Value:=(Nd (Nd (Nd Lf (some (.int .i64 n)) (Nd Lf (some (.pointer (some ⟨5,0,none⟩))) Lf)) none (Nd (Nd Lf (some (groS 4 k)) Lf) none (Nd Lf (some (groS 6 r)) Lf))) none (Nd (Nd (Nd Lf (some (.pointer (some ⟨3,0,none⟩))) Lf) (some (.pointer (some ⟨2,0,none⟩))) (Nd Lf (some (.int .i64 i)) Lf)) (some (groS 1 m)) (Nd Lf none (Nd Lf (some (.int .i64 b)) Lf))))
def hN3(L e:Le)(s:Int)(d:Li)(g:La)(f:Le)(c:Int)(b:Li)(a:La)(r:Le):AH:=⟨(Nd (Nd (Nd (Nd Lf (some (groB b)) Lf) (some (.cells [.int .i64 0,nilS,nilS] 25)) Lf) (some (groI e)) (Nd Lf (some (.cells [.int .i64 c,groS 7 b.length,groS 8 a.length] 25)) Lf)) (some (groI L)) (Nd (Nd (Nd Lf (some (groR a)) Lf) (some (groI f)) Lf) (some (auC s d g)) (Nd Lf (some (groI r)) Lf))),9⟩
def frN4(m k:Nat)(i:Nat):T Value:=(Nd (Nd (Nd (Nd (Nd Lf (some (groS 4 m)) Lf) none Lf) none (Nd Lf (some (.pointer (some ⟨3,0,none⟩))) Lf)) none (Nd (Nd (Nd Lf (some (.int .i64 i)) Lf) none Lf) none Lf)) none (Nd (Nd (Nd (Nd Lf (some (groS 5 k)) Lf) (some (.pointer (some ⟨2,0,none⟩))) Lf) none Lf) none Lf))
def hN4(L e:Le)(c:Int)(b:Li)(a:La)(d f:Le):AH:=⟨(Nd (Nd (Nd (Nd Lf (some (groR a)) Lf) (some (.cells [.int .i64 c,groS 6 b.length,groS 7 a.length] 25)) Lf) (some (groI e)) (Nd Lf (some (groI f)) Lf)) (some (groI L)) (Nd (Nd Lf (some (groI d)) Lf) (some (.cells [.int .i64 0,nilS,nilS] 25)) (Nd Lf (some (groB b)) Lf))),8⟩
def frN5(m k:Nat)(i:Nat):T Value:=(Nd (Nd (Nd (Nd (Nd Lf (some (groS 4 m)) Lf) none Lf) none (Nd (Nd Lf (some (.int .i64 i)) Lf) (some (.pointer (some ⟨3,0,none⟩))) Lf)) none Lf) none (Nd (Nd (Nd (Nd Lf (some (groS 5 k)) Lf) (some (.pointer (some ⟨2,0,none⟩))) Lf) none Lf) none (Nd (Nd (Nd Lf (some (.pointer (some ⟨6,0,none⟩))) Lf) none Lf) none Lf)))
def hN5(L g:Le)(e:Int)(d:Li)(a:La)(f h:Le)(b:Li)(c:La):AH:=⟨(Nd (Nd (Nd (Nd Lf (some (groB d)) Lf) (some (.cells [.int .i64 e,groS 7 d.length,groS 8 a.length] 25)) Lf) (some (groI g)) (Nd (Nd Lf (some (groB b)) Lf) (some (groI h)) Lf)) (some (groI L)) (Nd (Nd (Nd Lf (some (groR a)) Lf) (some (groI f)) Lf) (some (.cells [.int .i64 0,nilS,nilS] 25)) (Nd (Nd Lf (some (groR c)) Lf) (some (.cells [.int .i64 0,groS 9 b.length,groS 10 c.length] 25)) Lf))),11⟩
def frN6(m k:Nat)(i r b:Nat):T Value:=(Nd (Nd (Nd (Nd (Nd Lf (some (groS 4 m)) Lf) none Lf) none (Nd (Nd Lf (some (.int .i64 i)) Lf) (some (.pointer (some ⟨3,0,none⟩))) Lf)) none (Nd Lf none (Nd (Nd Lf (some (.int .i64 b)) Lf) none Lf))) none (Nd (Nd (Nd (Nd Lf (some (groS 5 k)) Lf) (some (.pointer (some ⟨2,0,none⟩))) Lf) none (Nd (Nd Lf (some (groS 7 r)) Lf) none Lf)) none (Nd (Nd (Nd Lf (some (.pointer (some ⟨6,0,none⟩))) Lf) none Lf) none Lf)))
def hN6(L g:Le)(e:Int)(d:Li)(a:La)(f h:Le)(b:Li)(c:La)(r:Le):AH:=⟨(Nd (Nd (Nd (Nd Lf (some (groI r)) Lf) (some (.cells [.int .i64 e,groS 8 d.length,groS 9 a.length] 25)) (Nd Lf (some (groR c)) Lf)) (some (groI g)) (Nd (Nd Lf (some (groR a)) Lf) (some (groI h)) Lf)) (some (groI L)) (Nd (Nd (Nd Lf (some (groB d)) Lf) (some (groI f)) Lf) (some (.cells [.int .i64 0,nilS,nilS] 25)) (Nd (Nd Lf (some (groB b)) Lf) (some (.cells [.int .i64 0,groS 10 b.length,groS 11 c.length] 25)) Lf))),12⟩
def jNu(K:KV)(P:Int->Lh->Lh->Prop)(q:Le)(L a:Le)(n:Nat)(s:Int)(c:Li)(b:La):Prop:=aN (XNu P q) 1 f55 [.agg ⟨[.int .i64 s,dat 1 (blV c),dat 1 (roV b)]⟩,groS 0 L.length,groS 1 a.length,.int .i64 n] (hNu0 L a) K
def jN1(K:KV)(d:KF)(P:Int->Lh->Lh->Prop)(q:Le)(L a:Le)(n:Nat)(s:Int)(c:Li)(e:La)(b:Le)(i:Int):Prop:=aI (XNu P q) 1 nNu (hNu0 L a) bNu pN1 (cu K) [] [] [] slN1 d (frN1 a.length n b.length L.length i) (hN1 L a s c e b)
def jN2(K:KV)(f:KF)(P:Int->Lh->Lh->Prop)(q:Le)(L a:Le)(n:Nat)(s:Int)(d:Li)(g:La)(b:Le)(c:Int)(h:Li)(e:La)(i:Nat):Prop:=aI (XNu P q) 1 nNu (hNu0 L a) bNu pN2 (cu K) nsN2 [.cell 11 2] [] slN2 f (frN2 a.length n b.length i) (hN2 L a s d g b c h e)
noncomputable def kN2(K:KV)(b:KF)(P:Int->Lh->Lh->Prop)(q:Le)(L a:Le):KX:=stepF (XNu P q) 1 nNu (hNu0 L a) bNu pN2 (cu K) nsN2 [.cell 11 2] [] slN2 b
def jN3(K:KV)(k g:KF)(P:Int->Lh->Lh->Prop)(q:Le)(L a:Le)(n:Nat)(s:Int)(e:Li)(h:La)(c:Le)(d:Int)(j:Li)(f:La)(i:Nat)(r:Le)(b:Nat):Prop:=aI (XNu P q) 1 nNu (hNu0 L a) (an (subC pN2 bNu)) pN3 (kN2 K k P q L a) [] [] [] slN3 g (frN3 a.length n c.length i r.length b) (hN3 L a s e h c d j f r)
def jN4(K:KV)(f:KF)(P:Int->Lh->Lh->Prop)(q:Le)(L b:Le)(d:Int)(g:Li)(e:La)(a c:Le)(i:Nat):Prop:=aI (XNu P q) 1 nNu (hNu0 L b) bNu pN4 (cu K) [] [] [] slN4 f (frN4 a.length c.length i) (hN4 L b d g e a c)
def jN5(K:KV)(h:KF)(P:Int->Lh->Lh->Prop)(q:Le)(L b:Le)(d:Int)(j:Li)(e:La)(a c:Le)(f:Li)(g:La)(i:Nat):Prop:=aI (XNu P q) 1 nNu (hNu0 L b) bNu pN5 (cu K) nsN5 [.cell 18 2] [] slN5 h (frN5 a.length c.length i) (hN5 L b d j e a c f g)
noncomputable def kN5(K:KV)(b:KF)(P:Int->Lh->Lh->Prop)(q:Le)(L a:Le):KX:=stepF (XNu P q) 1 nNu (hNu0 L a) bNu pN5 (cu K) nsN5 [.cell 18 2] [] slN5 b
def jN6(K:KV)(l j:KF)(P:Int->Lh->Lh->Prop)(q:Le)(L a:Le)(e:Int)(k:Li)(f:La)(c d:Le)(g:Li)(h:La)(i:Nat)(r:Le)(b:Nat):Prop:=aI (XNu P q) 1 nNu (hNu0 L a) (an (subC pN5 bNu)) pN6 (kN5 K l P q L a) [] [] [] slN6 j (frN6 c.length d.length i r.length b) (hN6 L a e k f c d g h r)
theorem _root_.Go.JL:type_of% @List.getElem_map:=@List.getElem_map
theorem _root_.Go.JW:type_of% @List.getElem_range:=@List.getElem_range
abbrev _root_.Go.Kb:=@List.eq_replicate_iff
theorem _root_.Go.JM:type_of% @List.ext_getElem:=@List.ext_getElem
theorem _root_.Go.Kk:type_of% @List.getElem_of_eq:=@List.getElem_of_eq
abbrev X_:=m_ [Vi 0,p_,p_] 25
abbrev OC(a:Nat):Prop:=(0<=(a:Int)/\(a:Int)<=(a:Int)/\(a:Int)<=281474976710656/\8*Int.toNat (a:Int)<=281474976710656)
theorem MB(K:KV)(P:Int->Lh->Lh->Prop)(q:Le)(L:Le)(a:Le)(n:Nat)(s:Int)(c:Li)(b:La):jNu K P q L a n s c b=(OC n/\F_ L/\F_ a/\U' c/\LQ b/\Kt (List.replicate (G_ n) (Vi 0))/\LAtZ (XNu P q) 1 f55.ntmps (hNu0 L a) (ay f55) [1,1,0,1,0] (finK (SX.E (XNu P q)) f55.results.toList K) (No (Ns (Kx n) (LA L.length) (H_ (g_ 4 0 (G_ n)))) (Ns (Kw (Sg (c_ 3 0)) (c_ 2 0)) (g_ 1 0 a.length) (No (x_ (I_ L.length-1)) Lf))) (K_ (Kw (Sg X_) (f_ a)) (f_ L) (Kw (Lu (List.replicate (G_ n) (Vi 0)) 3) (h_ s c b)) 5)):=by kernel_rfl
theorem jNu_nf:type_of%(by have h:=@MB;revert h;delta OC b_ c_ d_ f_ g_ h_ l_ m_ p_ x_ F_ G_ H_ I_ K_ S_ X_ U' Kt Kw Kx Lu LA LQ;exact id):=@MB
abbrev Kv:=λa b c=>Vi (aa (inV a) (s_ b c))
theorem MC(K:KV)(e:KF)(P:Int->Lh->Lh->Prop)(q:Le)(L:Le)(a:Le)(n:Nat)(s:Int)(c:Li)(d:La)(b:Le)(i:Int):jN1 K e P q L a n s c d b i=(Sp (decide (0<=i)) ((0<=i/\i<I_ L.length)/\nth (inV L) (G_ (I_ (Int.toNat i+0)))=some (Vi (aa (inV L) (I_ (Int.toNat i+0))))/\(0<=aa (inV L) (I_ (Int.toNat i+0))/\aa (inV L) (I_ (Int.toNat i+0))<I_ a.length)/\nth (inV a) (G_ (s_ (inV L) (I_ (Int.toNat i+0))))=some (Kv a (inV L) (I_ (Int.toNat i+0)))/\(0<=i/\i<I_ L.length)/\nth (inV L) (G_ (I_ (Int.toNat i+0)))=some (Vi (aa (inV L) (I_ (Int.toNat i+0))))/\(0<=aa (inV a) (s_ (inV L) (I_ (Int.toNat i+0)))/\aa (inV a) (s_ (inV L) (I_ (Int.toNat i+0)))<I_ b.length)/\Int.toNat (s_ (inV a) (s_ (inV L) (I_ (Int.toNat i+0))))<List.length (inV b)/\F_ L/\F_ a/\U' c/\LQ d/\Kt (List.set (inV b) (G_ (s_ (inV a) (s_ (inV L) (I_ (Int.toNat i+0))))) (Vi (aa (inV L) (I_ (Int.toNat i+0)))))/\e (No (Ns (Kx n) (LA L.length) (H_ (g_ 4 0 b.length))) (Ns (Kw (Sg (c_ 3 0)) (c_ 2 0)) (g_ 1 0 a.length) (No (x_ (i-1)) Lf))) (K_ (Kw (Sg X_) (f_ a)) (f_ L) (Kw (Lu (List.set (inV b) (G_ (s_ (inV a) (s_ (inV L) (I_ (Int.toNat i+0))))) (Vi (aa (inV L) (I_ (Int.toNat i+0))))) 3) (h_ s c d)) 5)) ((0<=s/\s<I_ a.length)/\nth (inV a) (G_ (I_ (Int.toNat s+0)))=some (Vi (aa (inV a) (I_ (Int.toNat s+0))))/\F_ L/\F_ a/\U' c/\LQ d/\F_ b/\LC/\LC/\LAtZ (XNu P q) 1 nNu (hNu0 L a) bNu [1,1,1,1,0,1,0] (cu K) (No (No (Ns Lf (Vi n) (Sg (c_ 5 0))) (H_ (g_ 4 0 b.length))) (Kw (Ns (Sg (c_ 3 0)) (c_ 2 0) (Kx 0)) (g_ 1 0 a.length))) (K_ (Ns (Q_ (AObj.gro [] [] 49) [Vi 0,p_,p_] 25) (f_ a) (KJ [Vi (aa (inV a) (I_ (Int.toNat s+0))),KN 6 0,KN 7 0] 25)) (f_ L) (Ns (Lp b) (h_ s c d) (Sg (AObj.gro [] [] 4))) 8))):=by kernel_rfl
theorem jN1_nf:type_of%(by have h:=@MC;revert h;delta b_ c_ d_ f_ g_ h_ l_ m_ p_ s_ x_ F_ G_ H_ I_ K_ Q_ S_ W_ X_ U' Kt Kv Kw Kx KJ KN Lp Lu LA LC LQ;exact id):=@MC
abbrev Oe:Prop:=((0:Int)<=(256:Int)/\(256:Int)<=(256:Int)/\(256:Int)<=(281474976710656:Int)/\(2048:Nat)<=(281474976710656:Nat))
theorem MD(K:KV)(h:KF)(P:Int->Lh->Lh->Prop)(q:Le)(L:Le)(c:Le)(n:Nat)(s:Int)(f:Li)(g:La)(e:Le)(d:Int)(b:Li)(a:La)(i:Nat):jN2 K h P q L c n s f g e d b a i=(Sp (decide ((i:Int)<(n:Int))) (Oe/\F_ L/\F_ c/\U' f/\LQ g/\F_ e/\Kt (inV z256)/\Kt (blV b)/\Kt (roV a)/\LAtZ (XNu P q) 1 nNu (hNu0 L c) (an (subC pN2 bNu)) [1,0,0,1,0,1,0] (stepF (XNu P q) 1 nNu (hNu0 L c) bNu pN2 (cu K) nsN2 [NPos.cell 11 2] [] slN2 h) (No (No (Ns Lf (Vi n) (Sg (c_ 5 0))) (No (Ls 4 0 e.length) (Sg (t_ 6 0 256 18446744073709551620)))) (Ns (Ns (Sg (c_ 3 0)) (c_ 2 0) (Kx i)) (g_ 1 0 c.length) (KA (Vi 0)))) (K_ (Ns (Q_ (Z_ b) [Vi 0,p_,p_] 25) (f_ c) (KJ [Vi d,g_ 7 0 b.length,g_ 8 0 a.length] 25)) (f_ L) (Ns (Kw (Sg (O_ a)) (f_ e)) (h_ s f g) (Sg (AObj.gro (inV z256) [] 3))) 9)) (HFs [d_ (blV b),d_ (roV a),Lw q,d_ (blV b),d_ (roV a)] ((([]:Lh)=[]/\([]:Lh)=[])/\(List.length b=List.length (blV b)/\List.length a=List.length (roV a))/\P d (blV b) (roV a))/\OC n/\F_ L/\F_ c/\F_ q/\Kt (List.replicate (G_ n) (Vi 0))/\Kt (blV b)/\Kt (roV a)/\LAtZ (XNu P q) 1 nNu (hNu0 L c) bNu [1,1,1,1,1,1,1,0,1,0] (cu K) (No (No (No (H_ (g_ 4 0 q.length)) (Sg (c_ 3 0))) (w_ (Kx 0))) (w_ (Kw (Ls 5 0 (G_ n)) (c_ 2 0)))) (K_ (Ns (Q_ (O_ a) [Vi d,g_ 6 0 b.length,g_ 7 0 a.length] 25) (f_ c) (Lu (List.replicate (G_ n) (Vi 0)) 3)) (f_ L) (Ns (Lp q) X_ (Sg (Z_ b))) 8))):=by kernel_rfl
theorem jN2_nf:type_of%(by have h:=@MD;revert h;delta OC Oe b_ c_ d_ f_ g_ h_ l_ m_ p_ t_ w_ F_ G_ H_ K_ O_ Q_ S_ X_ Z_ U' Kt Kw Kx KA KJ Lp Ls Lu Lw LQ;exact id):=@MD
abbrev Ov(a:La)(b:Le)(c:Nat)(d:Nat)(e:Le):Prop:=(0<=aa (r_ a (P_ b c)) d/\aa (r_ a (P_ b c)) (d:Int)<I_ e.length)
theorem ME(K:KV)(k:KF)(j:KF)(P:Int->Lh->Lh->Prop)(q:Le)(L:Le)(d:Le)(n:Nat)(s:Int)(e:Li)(c:La)(a:Le)(h:Int)(f:Li)(g:La)(i:Nat)(r:Le)(b:Nat):jN3 K k j P q L d n s e c a h f g i r b=(Sp (decide ((b:Int)<256)) (Oa i a/\nth (inV a) i=some (Vi (P_ a i))/\Oj a i c/\nth (roV c) (G_ (o_ (P_ a i)))=some (Vd 1 (r_ c (P_ a i)))/\OE b c a i/\nth (r_ c (P_ a i)) b=some (Vi (aa (r_ c (P_ a i)) b))/\Ov c a i b d/\nth (inV d) (G_ (s_ (r_ c (P_ a i)) b))=some (Kv d (r_ c (P_ a i)) b)/\Oa b r/\b<List.length (inV r)/\F_ L/\F_ d/\U' e/\LQ c/\F_ a/\Kt (List.set (inV r) b (Kv d (r_ c (P_ a i)) b))/\Kt (blV f)/\Kt (roV g)/\j (No (No (Ns Lf (Vi n) (Sg (c_ 5 0))) (No (Ls 4 0 a.length) (Ls 6 0 r.length))) (Ns (Ns (Sg (c_ 3 0)) (c_ 2 0) (Kx i)) (g_ 1 0 d.length) (No Lf (x_ ((b:Int)+1))))) (K_ (Ns (Q_ (Z_ f) [Vi 0,p_,p_] 25) (f_ d) (KJ [Vi h,g_ 7 0 f.length,g_ 8 0 g.length] 25)) (f_ L) (Ns (Kw (Sg (O_ g)) (f_ a)) (h_ s e c) (Lu (List.set (inV r) b (Kv d (r_ c (P_ a i)) b)) 3)) 9)) (Om r g/\Oa i a/\nth (inV a) i=some (Vi (P_ a i))/\(0<=aa (inV a) i/\aa (inV a) (i:Int)<j_ (blV e))/\nth (blV e) (G_ (o_ (P_ a i)))=some (Lt (blV e) (o_ (P_ a i)))/\(List.all [Lt (blV e) (o_ (P_ a i))] cellv=true/\List.length f+0=List.length (blV f)/\List.length f+(1:Nat)<=(70368744177664:Nat)/\(List.length f+1)*(1:Nat)<=(140737488355328:Nat))/\List.length (inV r)=List.length r/\F_ L/\F_ d/\U' e/\LQ c/\F_ a/\Kt (blV f++[Lt (blV e) (o_ (P_ a i))])/\Kt (roV g++[Vd 1 (inV r)])/\k (No (No (Ns Lf (Vi n) (Sg (c_ 5 0))) (H_ (g_ 4 0 a.length))) (Kw (Ns (Sg (c_ 3 0)) (c_ 2 0) (x_ ((i:Int)+1))) (g_ 1 0 d.length))) (K_ (Ns (Q_ (l_ (roV g++[Vd 1 (inV r)]) 49) [Vi 0,p_,p_] 25) (f_ d) (KJ [Vi h,g_ 6 0 (List.length f+1),g_ 7 0 (List.length g+1)] 25)) (f_ L) (Ns (Lp a) (h_ s e c) (Lu (blV f++[Lt (blV e) (o_ (P_ a i))]) 4)) 8))):=by kernel_rfl
theorem jN3_nf:type_of%(by have h:=@ME;revert h;delta OE Ov Om Oj Oa b_ c_ d_ f_ g_ h_ j_ l_ m_ o_ p_ r_ s_ x_ F_ G_ H_ I_ K_ O_ P_ Q_ S_ Z_ U' Kt Kv Kw Kx KJ KY Lp Ls Lt Lu LQ;exact id):=@ME
abbrev Of(a:Le)(b:Nat)(c:Le):Prop:=(0<=aa (inV a) b/\aa (inV a) (b:Int)<I_ c.length)
theorem MF(K:KV)(g:KF)(P:Int->Lh->Lh->Prop)(q:Le)(L:Le)(e:Le)(f:Int)(d:Li)(c:La)(a:Le)(b:Le)(i:Nat):jN4 K g P q L e f d c a b i=(Sp (decide ((i:Int)<I_ a.length)) (Oa i a/\nth (inV a) i=some (Vi (P_ a i))/\Of a i b/\Int.toNat (s_ (inV a) i)<List.length (inV b)/\F_ L/\F_ e/\F_ a/\Kt (List.set (inV b) (G_ (s_ (inV a) i)) (Vi i))/\Kt (blV d)/\Kt (roV c)/\g (No (No (No (H_ (g_ 4 0 a.length)) (Sg (c_ 3 0))) (w_ (x_ ((i:Int)+1)))) (w_ (Kw (Ls 5 0 b.length) (c_ 2 0)))) (K_ (Ns (Q_ (O_ c) [Vi f,g_ 6 0 d.length,g_ 7 0 c.length] 25) (f_ e) (Lu (List.set (inV b) (G_ (s_ (inV a) i)) (Vi i)) 3)) (f_ L) (Ns (Lp a) X_ (Sg (Z_ d))) 8)) (F_ L/\F_ e/\F_ a/\F_ b/\Kt (blV d)/\Kt (roV c)/\LC/\LC/\LAtZ (XNu P q) 1 nNu (hNu0 L e) bNu [1,1,1,1,1,1,1,1,1,0,1,0] (cu K) (No (No (No (H_ (g_ 4 0 a.length)) (Kw (Kx 0) (c_ 3 0))) Lf) (No (No (Kw (Ls 5 0 b.length) (c_ 2 0)) Lf) (w_ (Sg (c_ 6 0))))) (K_ (Ns (Q_ (Z_ d) [Vi f,g_ 7 0 d.length,g_ 8 0 c.length] 25) (f_ e) (Kw (Sg (AObj.gro [] [] 4)) (f_ b))) (f_ L) (Ns (Kw (Sg (O_ c)) (f_ a)) X_ (Q_ (AObj.gro [] [] 49) [Vi 0,KN 9 0,KN 10 0] 25)) 11))):=by kernel_rfl
theorem jN4_nf:type_of%(by have h:=@MF;revert h;delta Of Oa b_ c_ d_ f_ g_ l_ m_ p_ s_ w_ x_ F_ G_ H_ I_ K_ O_ P_ Q_ W_ X_ Z_ Kt Kw Kx KN Lp Ls Lu LC;exact id):=@MF
theorem MG(K:KV)(j:KF)(P:Int->Lh->Lh->Prop)(q:Le)(L:Le)(e:Le)(h:Int)(f:Li)(d:La)(c:Le)(g:Le)(a:Li)(b:La)(i:Nat):jN5 K j P q L e h f d c g a b i=(Sp (decide ((i:Int)<I_ c.length)) (Oe/\F_ L/\F_ e/\F_ c/\F_ g/\Kt (inV z256)/\Kt (blV f)/\Kt (roV d)/\Kt (blV a)/\Kt (roV b)/\LAtZ (XNu P q) 1 nNu (hNu0 L e) (an (subC pN5 bNu)) [1,0,0,1,0,1,0] (stepF (XNu P q) 1 nNu (hNu0 L e) bNu pN5 (cu K) nsN5 [NPos.cell 18 2] [] slN5 j) (No (No (No (H_ (g_ 4 0 c.length)) (Kw (Kx i) (c_ 3 0))) (No Lf (H_ (Vi 0)))) (No (No (Kw (Ls 5 0 g.length) (c_ 2 0)) (H_ (t_ 7 0 256 18446744073709551620))) (w_ (Sg (c_ 6 0))))) (K_ (Ns (Ns (Sg (AObj.gro (inV z256) [] 3)) (m_ [Vi h,g_ 8 0 f.length,g_ 9 0 d.length] 25) (Sg (O_ b))) (f_ e) (Kw (Sg (O_ d)) (f_ g))) (f_ L) (Ns (Kw (Sg (Z_ f)) (f_ c)) X_ (Q_ (Z_ a) [Vi 0,g_ 10 0 a.length,g_ 11 0 b.length] 25)) 12)) (K (d_ [Vi 0,g_ 9 0 a.length,g_ 10 0 b.length]) (K_ (Ns (Q_ (Z_ f) [Vi h,g_ 7 0 f.length,g_ 8 0 d.length] 25) (f_ e) (Kw (Sg (Z_ a)) (f_ g))) (f_ L) (Ns (Kw (Sg (O_ d)) (f_ c)) (m_ [Vi 0,g_ 9 0 a.length,g_ 10 0 b.length] 25) (Q_ (O_ b) [Vi 0,g_ 9 0 a.length,g_ 10 0 b.length] 25)) 11))):=by kernel_rfl
theorem jN5_nf:type_of%(by have h:=@MG;revert h;delta Oe b_ c_ d_ f_ g_ l_ m_ p_ t_ w_ F_ H_ I_ K_ O_ Q_ X_ Z_ Kt Kw Kx Ls;exact id):=@MG
theorem MH(K:KV)(l:KF)(k:KF)(P:Int->Lh->Lh->Prop)(q:Le)(L:Le)(h:Le)(j:Int)(d:Li)(c:La)(a:Le)(e:Le)(f:Li)(g:La)(i:Nat)(r:Le)(b:Nat):jN6 K l k P q L h j d c a e f g i r b=(Sp (decide ((b:Int)<256)) (Oa i a/\nth (inV a) i=some (Vi (P_ a i))/\(0<=aa (inV a) i/\aa (inV a) (i:Int)<I_ c.length)/\nth (roV c) (G_ (s_ (inV a) i))=some (Vd 1 (KT c a i))/\(0<=(b:Int)/\(b:Int)<j_ (KT c a i))/\nth (KT c a i) b=some (Vi (aa (KT c a i) b))/\(0<=aa (KT c a i) b/\aa (KT c a i) (b:Int)<I_ e.length)/\nth (inV e) (G_ (s_ (KT c a i) b))=some (Kv e (KT c a i) b)/\Oa b r/\b<List.length (inV r)/\F_ L/\F_ h/\F_ a/\F_ e/\Kt (List.set (inV r) b (Kv e (KT c a i) b))/\Kt (blV d)/\Kt (roV c)/\Kt (blV f)/\Kt (roV g)/\k (No (No (No (H_ (g_ 4 0 a.length)) (Kw (Kx i) (c_ 3 0))) (No Lf (No (x_ ((b:Int)+1)) Lf))) (No (No (Kw (Ls 5 0 e.length) (c_ 2 0)) (H_ (g_ 7 0 r.length))) (w_ (Sg (c_ 6 0))))) (K_ (Ns (Ns (Lu (List.set (inV r) b (Kv e (KT c a i) b)) 3) (m_ [Vi j,g_ 8 0 d.length,g_ 9 0 c.length] 25) (Sg (O_ g))) (f_ h) (Kw (Sg (O_ c)) (f_ e))) (f_ L) (Ns (Kw (Sg (Z_ d)) (f_ a)) X_ (Q_ (Z_ f) [Vi 0,g_ 10 0 f.length,g_ 11 0 g.length] 25)) 12)) ((List.all [g_ 7 0 r.length] cellv=true/\List.length g+0=List.length (roV g)/\List.length g+(1:Nat)<=(70368744177664:Nat)/\(List.length g+1)*(24:Nat)<=(140737488355328:Nat))/\Oa i a/\nth (inV a) i=some (Vi (P_ a i))/\(0<=aa (inV a) i/\aa (inV a) (i:Int)<I_ d.length)/\nth (blV d) (G_ (s_ (inV a) i))=some (Lt (blV d) (s_ (inV a) i))/\(List.all [Lt (blV d) (s_ (inV a) i)] cellv=true/\List.length f+0=List.length (blV f)/\List.length f+(1:Nat)<=(70368744177664:Nat)/\(List.length f+1)*(1:Nat)<=(140737488355328:Nat))/\List.length (inV r)=List.length r/\F_ L/\F_ h/\F_ a/\F_ e/\Kt (blV d)/\Kt (roV c)/\Kt (blV f++[Lt (blV d) (s_ (inV a) i)])/\Kt (roV g++[Vd 1 (inV r)])/\l (No (No (No (H_ (g_ 4 0 a.length)) (Kw (x_ ((i:Int)+1)) (c_ 3 0))) Lf) (No (No (Kw (Ls 5 0 e.length) (c_ 2 0)) Lf) (w_ (Sg (c_ 6 0))))) (K_ (Ns (Q_ (Z_ d) [Vi j,g_ 7 0 d.length,g_ 8 0 c.length] 25) (f_ h) (Kw (Lu (blV f++[Lt (blV d) (s_ (inV a) i)]) 4) (f_ e))) (f_ L) (Ns (Kw (Sg (O_ c)) (f_ a)) X_ (Q_ (l_ (roV g++[Vd 1 (inV r)]) 49) [Vi 0,g_ 9 0 (List.length f+1),g_ 10 0 (List.length g+1)] 25)) 11))):=by kernel_rfl
theorem jN6_nf:type_of%(by have h:=@MH;revert h;delta Oa b_ c_ d_ f_ g_ j_ l_ m_ p_ s_ w_ x_ F_ G_ H_ I_ K_ O_ P_ Q_ X_ Z_ Kt Kv Kw Kx KT Ls Lt Lu;exact id):=@MH
structure NmOk (a:AU) (l:Lg) (cl:Le) (n:Nat) (f:Nat->Nat):Prop where
 ok:OkL a
 len:cl.length=a.2.2.length
 at':∀ s∈l,∃h:s<cl.length,cl[s]=(f s:Nat)
 lt:∀ s∈l,s<a.2.2.length/\f s<n
 sur:∀ k,k<n->∃ s∈l,f s=k
 cls:∀ s∈l,∀b,b<256->dA a s b∈l
 st:a.1.toNat∈l
 n1:n<=90000
 l1:l.length<=90000
def atL(n:Nat)(l:Lg)(f:Nat->Nat):Le:=(List.range n).map λk=>((repM l f k:Nat):Int)
theorem fA(n:Nat)(l:Lg)(f:Nat->Nat):(atL n l f).length=n:=by unfold atL;grind
theorem xZ{f:Nat->Nat}(h:k<n):∃ a:k<(atL n l f).length,(atL n l f)[k]=(repM l f k:Nat):=by grind [fA,atL,JL,JW]
theorem GX(n:Nat)(f:Nat->Nat):atL n [] f=List.replicate n 0:=by unfold atL;rw[Kb];refine⟨by simp,λx a=>?_⟩;obtain⟨k,_,rfl⟩:=Hn.1 a;rfl
theorem u7(x:Nat)(l:Lg)(f:Nat->Nat)(k:Nat):repM (x::l) f k=if f x=k then x else repM l f k:=by unfold repM;grind
theorem Aq{x:Nat}{f:Nat->Nat}(h:f x<n):(atL n l f).set (f x) (x:Nat)=atL n (x::l) f:=by refine JM (by rw[Hz,fA,fA]) λi a c=>?_;rw[Hz,fA]at a;obtain⟨e,g⟩:=xZ (n:=n) (l:=l) (f:=f) a;obtain⟨d,b⟩:=xZ (n:=n) (l:=x::l) (f:=f) a;rw[b,u7,List.getElem_set];grind
theorem XNu_ok{O:AU}(h:OkL O):(XNu (λs a l2=>s=O.1/\a=blV O.2.1/\l2=roV O.2.2) (inF (rfL (dA O) O.1.toNat))).Ok:=⟨ai,aD,am,.cons (mh_tab h) .nil⟩
def clA(a:AU)(l:Lg)(n:Nat)(f:Nat->Nat):AU:=((f a.1.toNat:Nat),(List.range n).map (λk=>acN a.2.1 (repM l f k)),(List.range n).map λk=>inF (scM (dA a) l f k))
theorem NmOk.rep{a:AU}{cl:Le}{f:Nat->Nat}(h:NmOk a l cl n f)(b:k<n):repM l f k∈l/\f (repM l f k)=k:=gF (h.sur k b)
theorem GH{a:AU}{f:Nat->Nat}(b:k<n):∃ c:k<(clA a l n f).2.2.length,(clA a l n f).2.2[k]=inF (scM (dA a) l f k):=by refine⟨by show k<((List.range n).map _).length;grind,?_⟩;have e:(clA a l n f).2.2=(List.range n).map λk=>inF (scM (dA a) l f k):=rfl;grind
theorem CZ(δ :Nat->Nat->Nat)(l:Lg)(f:Nat->Nat)(k:Nat):(scM δ l f k).length=256:=by unfold scM;grind
theorem xJ(a:AU)(l:Lg)(n:Nat)(f:Nat->Nat):(clA a l n f).2.2.length=n/\(clA a l n f).2.1.length=n:=by refine⟨?_,?_⟩;show((List.range n).map _).length=n;grind;show((List.range n).map _).length=n;grind
theorem NmOk.ent{a:AU}{cl:Le}{f:Nat->Nat}(h:NmOk a l cl n f)(d:k<n):∀ x∈scM (dA a) l f k,x<n:=λx b=>by unfold scM at b;obtain⟨c,e,rfl⟩:=Hn.1 b;exact(h.lt _ (h.cls _ (h.rep d).1 c (If.1 e))).2
theorem NmOk.okL{a:AU}{cl:Le}{f:Nat->Nat}(h:NmOk a l cl n f):OkL (clA a l n f):=by obtain⟨g,m⟩:=xJ a l n f;have j:=h.n1;have i:=(h.lt _ h.st).2;refine⟨by omega,by omega,by omega,λr b=>?_,⟨by show(0:Int)<=(f a.1.toNat:Nat);omega,by rw[g];show((f a.1.toNat:Nat):Int)<n;omega⟩,λr b x d=>?_⟩;obtain⟨k,_,rfl⟩:=Hn.1 b;rw[ao,CZ];obtain⟨k,e,rfl⟩:=Hn.1 b;obtain⟨y,c,rfl⟩:=Hn.1 d;have:=h.ent (If.1 e) y c;grind
theorem NmOk.dA{a:AU}{cl:Le}{f:Nat->Nat}(h:NmOk a l cl n f)(j:k<n):scR (Go.T9.dA (clA a l n f)) k=scM (Go.T9.dA a) l f k:=by
 obtain⟨i,g⟩:=GH (a:=a) (l:=l) (f:=f) j;unfold scR scM;refine HQ λc b=>?_;have b:=If.1 b;obtain⟨s1,d,m⟩:=h.okL.at' i b;have e:(clA a l n f).2.2[k][c]=((f (Go.T9.dA a (repM l f k) c):Nat):Int):=by rw[Kk g];unfold inF scM;grind
 rw[e]at d;omega
theorem NmOk.ord{a:AU}{cl:Le}{f:Nat->Nat}(h:NmOk a l cl n f):rfL (Go.T9.dA (clA a l n f)) (f a.1.toNat)=bfsK (scM (Go.T9.dA a) l f) 90001 [f a.1.toNat] 0:=by
 have:=(nk (φ :=id) (P:=λk=>k<n) (λa b _ _ e=>e) (sc:=scR (Go.T9.dA (clA a l n f))) (sc2:=scM (Go.T9.dA a) l f) (λk d=>by rw[IC];exact(h.dA d).symm) (λk d x c=>by rw[h.dA d]at c;exact h.ent d x c) 90001 [f a.1.toNat] 0 (λx c=>by rw[Ie.1 c];exact(h.lt _ h.st).2)).1
 rw[IC,IC]at this;exact this.symm
end
end Go.T9
set_option maxHeartbeats 400000
namespace Go.T9
open Go Go.AM Go.MK Go.HK
noncomputable section
variable {P:Int->Lh->Lh->Prop}{K:KV}{q:Le}{l:Lg}{n:Nat}
theorem zk(B:(XNu P q).Ok){a:AU}{cl:Le}{f:Nat->Nat}(h:NmOk a l cl n f)
 (o:LAtZ (XNu P q) 1 nNu (hNu0 (inF l) cl) bNu pN2 (cu K) (frN2 cl.length n (atL n l f).length 0) (hN2 (inF l) cl a.1 a.2.1 a.2.2 (atL n l f) (f a.1.toNat:Nat) [] [])):
 LAtZ (XNu P q) 1 nNu (hNu0 (inF l) cl) bNu pN1 (cu K) (frN1 cl.length n (atL n [] f).length (inF l).length ((l.length:Int)-1)) (hN1 (inF l) cl a.1 a.2.1 a.2.2 (atL n [] f)):=by
 have v:=ao l;have w:=h.l1;have u:=h.n1;have t:=h.ok.st;refine LAtZ.stepF B [] [] [] slN1 (by kernel_rfl) (λm G A=>∃ z:Int,z=(m:Int)-1/\G=frN1 cl.length n (atL n (l.drop m) f).length (inF l).length z/\A=hN1 (inF l) cl a.1 a.2.1 a.2.2 (atL n (l.drop m) f)/\m<=l.length) ?_ (k:=l.length) ⟨_,rfl,by rw[List.drop_length],by rw[List.drop_length],Hw _⟩;rintro m G A ⟨z,E,rfl,rfl,F⟩;have y:=fA n (l.drop m) f;refine(jN1_nf _ _ P q (inF l) cl n a.1 a.2.1 a.2.2 (atL n (l.drop m) f) z).mpr (Sp.intro (λc=>?_) (λc=>?_));have c:=odt c;obtain⟨i,rfl⟩:∃ i,m=i+1:=⟨m-1,by omega⟩;obtain rfl:z=(i:Int):=by omega
 have d:i<l.length:=by omega
 have b:i<(inF l).length:=by omega
 have C:aa (inV (inF l)) (i:Int)=(l[i]:Nat):=by rw[aA b,bD d]
 have r:nth (inV (inF l)) i=some (Vi (l[i]:Nat)):=by rw[aL b,bD d]
 obtain⟨g,e⟩:=h.at' _ (Hq d);obtain⟨H,D⟩:=h.lt _ (Hq d);have hd:l.drop i=l[i]::l.drop (i+1):=H7 d;generalize l[i]=x at*;have p:aa (inV cl) (x:Int)=(f x:Nat):=by rw[aA g,e]
 have j:nth (inV cl) x=some (Vi (f x:Nat)):=by rw[aL g,e]
 have s:=Aq (n:=n) (l:=l.drop (i+1)) (f:=f) D;rw[<-hd]at s;simp only[D',HN];rw[C];simp only[D',HN];rw[p];simp only[D',HN];rw[bz,s,aF (x:=(i:Int)-1) (by omega) (by omega)];refine⟨⟨by omega,by omega⟩,r,⟨by omega,by omega⟩,j,⟨by omega,by omega⟩,r,⟨by omega,by omega⟩,by rw[af];omega,ab _,ab _,.dat (ax _),.dat (aq _),ab _,i,by omega,(i:Int)-1,rfl,?_,rfl,by omega⟩;rw[fA,fA];rfl;have c:=odf c;obtain rfl:m=0:=by omega
 obtain⟨g,e⟩:=h.at' _ h.st;have p:aa (inV cl) ((Int.toNat a.1+0:Nat):Int)=(f a.1.toNat:Nat):=by rw[HN,aA g,e]
 have j:nth (inV cl) (Int.toNat ((Int.toNat a.1+0:Nat):Int))=some (Vi (f a.1.toNat:Nat)):=by rw[D',HN,aL g,e]
 rw[p];refine⟨⟨by omega,by omega⟩,j,ab _,ab _,.dat (ax _),.dat (aq _),ab _,au [],aw [],?_⟩;exact o
theorem nN(f:Nat->Nat)(c:Nat):(List.range (c+1)).map f=(List.range c).map f++[f c]:=by rw[I5,HD];rfl
def rowF(g:Nat->Nat)(b:Nat):Le:=inF ((List.range b).map g)++List.replicate (256-b) 0
theorem jc(g:Nat->Nat){b:Nat}(h:b<=256):(rowF g b).length=256:=by unfold rowF;rw[E',ao,Hp,IN,HZ];omega
theorem qQ(g:Nat->Nat){b:Nat}(h:b<256):(rowF g b).set b (g b:Nat)=rowF g (b+1):=by
 unfold rowF;have e:(inF ((List.range b).map g)).length=b:=by rw[ao,Hp,IN]
 grind [jQ,inF,List.range,nN,gS]
theorem qR(g:Nat->Nat):rowF g 256=inF ((List.range 256).map g):=by unfold rowF;simp
theorem zi{again2:KF}(Y:(XNu P q).Ok){a:AU}{cl:Le}{f:Nat->Nat}(h:NmOk a l cl n f){k:Nat}(B:k<n){c0:Int}{g:Li}{e:La}(ho:g.length<=90000)(hn:e.length<=90000)
 (d:again2 (frN2 cl.length n (atL n l f).length (k+1)) (hN2 (inF l) cl a.1 a.2.1 a.2.2 (atL n l f) c0 (g++[acN a.2.1 (repM l f k)]) (e++[inF (scM (dA a) l f k)]))):
 LAtZ (XNu P q) 1 nNu (hNu0 (inF l) cl) (an (subC pN2 bNu)) pN3 (kN2 K again2 P q (inF l) cl) (frN3 cl.length n (atL n l f).length k 256 0) (hN3 (inF l) cl a.1 a.2.1 a.2.2 (atL n l f) c0 g e (List.replicate 256 0)):=by
 have Q:=ao l;have R:=h.l1;have O:=h.n1;have V:=fA n l f;obtain⟨H,F⟩:=xZ (l:=l) (f:=f) B;obtain⟨y,r2⟩:=h.rep B;obtain⟨o,t2⟩:=h.lt _ y;have t:=h.cls _ y;have r:scM (dA a) l f k=(List.range 256).map λc=>f (dA a (repM l f k) c):=rfl;rw[r]at d;have S:=h.ok.acc;generalize repM l f k=x at*;have C:aa (inV (atL n l f)) (k:Int)=(x:Nat):=by rw[aA H,F]
 have z:nth (inV (atL n l f)) k=some (Vi (x:Nat)):=by rw[aL H,F]
 refine LAtZ.stepF Y [] [] [] slN3 (by kernel_rfl) (λm G A=>∃ b:Nat,G=frN3 cl.length n (atL n l f).length k (rowF (λc=>f (dA a x c)) b).length b/\A=hN3 (inF l) cl a.1 a.2.1 a.2.2 (atL n l f) c0 g e (rowF (λc=>f (dA a x c)) b)/\b+m=256) ?_ (k:=256) ⟨0,rfl,rfl,rfl⟩;rintro m G A ⟨b,rfl,rfl,U⟩;have j:=jc (λc=>f (dA a x c)) (b:=b) (by omega);have M:=aG a.2.2;refine(jN3_nf _ _ _ P q (inF l) cl n a.1 a.2.1 a.2.2 (atL n l f) c0 g e k (rowF (λc=>f (dA a x c)) b) b).mpr (Sp.intro (λc=>?_) (λc=>?_));have c:=odt c;have u:b<256:=by omega
 obtain⟨s1,w,s3⟩:=h.ok.at' o u;have s:=t b u;obtain⟨E,D⟩:=h.at' _ s;have v:ae (roV a.2.2) (x:Int)=inV a.2.2[x]:=bL o;have p:nth (roV a.2.2) x=some (Vd 1 (inV a.2.2[x])):=cG o;have e3:aa (inV a.2.2[x]) (b:Int)=(dA a x b:Nat):=by rw[aA s1,w]
 have J:nth (inV a.2.2[x]) b=some (Vi (dA a x b:Nat)):=by rw[aL s1,w]
 have e4:aa (inV cl) ((dA a x b:Nat):Int)=(f (dA a x b):Nat):=by rw[aA E,D]
 have I:nth (inV cl) (dA a x b)=some (Vi (f (dA a x b):Nat)):=by rw[aL E,D]
 have N:(inV a.2.2[x]).length=a.2.2[x].length:=af _;have i:=qQ (λc=>f (dA a x c)) u;rw[C];simp only[D',HN];rw[v,e3,N,M];simp only[D',HN];rw[e4,bz,i,j,aF (x:=(b:Int)+1) (by omega) (by omega)];refine⟨⟨by omega,by omega⟩,z,⟨by omega,by omega⟩,p,⟨by omega,by omega⟩,J,⟨by omega,by omega⟩,I,⟨by omega,by omega⟩,by rw[af,j];omega,ab _,ab _,.dat (ax _),.dat (aq _),ab _,ab _,au _,aw _,m-1,by omega,b+1,?_,rfl,by omega⟩;rw[jc _ (by omega)];rfl;have c:=odf c;obtain rfl:b=256:=by omega
 have X:x<a.2.1.length:=by omega
 have v:az (blV a.2.1) (x:Int)=acN a.2.1 x:=by grind [bw,acN,gD]
 have p:nth (blV a.2.1) x=some (.bool (acN a.2.1 x)):=by grind [dj,acN,gD]
 have L:=aT a.2.1;rw[C];simp only[D',HN];rw[v,iM,qR,L,aF (x:=(k:Int)+1) (by omega) (by omega)];refine⟨⟨rfl,by rw[aG],by omega,by omega⟩,⟨by omega,by omega⟩,z,⟨by omega,by omega⟩,p,⟨rfl,by rw[aT],by omega,by omega⟩,by rw[af],ab _,ab _,.dat (ax _),.dat (aq _),ab _,au _,?_,?_⟩;exact(cR e _)▸aw _;have Z:roV e++[Vd 1 (inV (inF ((List.range 256).map λc=>f (dA a x c))))]=roV (e++[inF ((List.range 256).map λc=>f (dA a x c))]):=cR _ _;rw[Z];unfold hN2 at d;rw[E',E']at d;exact d
theorem tj{a :Type}(f:Nat-> a)(c:Nat):(List.range (c+1)).map f=(List.range c).map f++[f c]:=by rw[I5,HD];rfl
theorem ym:HF (.agg ⟨inV z256⟩):=ab _
theorem zj(g:(XNu P q).Ok){a:AU}{cl:Le}{f:Nat->Nat}(h:NmOk a l cl n f){c0:Int}(r:P c0 (blV (clA a l n f).2.1) (roV (clA a l n f).2.2))
 (e:LAtZ (XNu P q) 1 nNu (hNu0 (inF l) cl) bNu pN4 (cu K) (frN4 q.length n 0) (hN4 (inF l) cl c0 (clA a l n f).2.1 (clA a l n f).2.2 q (List.replicate n 0))):
 LAtZ (XNu P q) 1 nNu (hNu0 (inF l) cl) bNu pN2 (cu K) (frN2 cl.length n (atL n l f).length 0) (hN2 (inF l) cl a.1 a.2.1 a.2.2 (atL n l f) c0 [] []):=by
 have j:=h.n1;refine LAtZ.stepF g nsN2 [.cell 11 2] [] slN2 (by kernel_rfl) (λm G A=>∃ i:Nat,G=frN2 cl.length n (atL n l f).length i/\A=hN2 (inF l) cl a.1 a.2.1 a.2.2 (atL n l f) c0 ((List.range i).map λk=>acN a.2.1 (repM l f k)) ((List.range i).map λk=>inF (scM (dA a) l f k))/\i+m=n) ?_ (k:=n) ⟨0,rfl,rfl,by omega⟩;rintro m G A ⟨i,rfl,rfl,o⟩;have d:((List.range i).map λk=>acN a.2.1 (repM l f k)).length=i:=by grind
 have b:((List.range i).map λk=>inF (scM (dA a) l f k)).length=i:=by grind
 refine(jN2_nf _ _ P q (inF l) cl n a.1 a.2.1 a.2.2 (atL n l f) c0 _ _ i).mpr (Sp.intro (λc=>?_) (λc=>?_));have c:=odt c;have p:i<n:=by omega
 refine⟨⟨by omega,by omega,by omega,by omega⟩,ab _,ab _,.dat (ax _),.dat (aq _),ab _,ym,au _,aw _,?_⟩;refine zi g h p (by rw[d];omega) (by rw[b];omega) ?_;refine⟨m-1,by omega,i+1,rfl,?_,by omega⟩;grind [tj,acN,inF,dA];have c:=odf c;obtain rfl:i=n:=by omega
 have t:((List.range i).map λk=>acN a.2.1 (repM l f k))=(clA a l i f).2.1:=rfl;have s:((List.range i).map λk=>inF (scM (dA a) l f k))=(clA a l i f).2.2:=rfl;rw[t,s];rw[D',dE];refine⟨⟨au _,aw _,ab _,au _,aw _,⟨⟨rfl,rfl⟩,⟨by rw[aT],by rw[aG]⟩,r⟩⟩,⟨by omega,by omega,by omega,by omega⟩,ab _,ab _,ab _,ab _,au _,aw _,?_⟩;exact e
end
end Go.T9
