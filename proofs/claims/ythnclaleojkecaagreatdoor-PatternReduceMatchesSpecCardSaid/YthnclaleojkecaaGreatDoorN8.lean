/- A part of the proof. -/
import Derived.Test.YthnclaleojkecaaGreatDoorN7
import Derived.Test.YthnclaleojkecaaGreatDoorX2
import Derived.Test.YthnclaleojkecaaGreatDoorX3
import Derived.Test.YthnclaleojkecaaGreatDoorX4
import Derived.Test.YthnclaleojkecaaGreatDoorX1
import Derived.Test.YthnclaleojkecaaGreatDoorY2
import Derived.Test.YthnclaleojkecaaGreatDoorY3
set_option linter.unusedVariables false
set_option linter.unusedSimpArgs false
set_option maxRecDepth 1000000
set_option maxHeartbeats 1000000
namespace Go.T9
open Go Go.AM Go.MK Go.HK Go.Proofs.Tryz
noncomputable section
variable {rw:La}{F:Lg}{ac:Li}
theorem yR{n:Nat}(l:Lg)(b:l.Nodup)(a:∀ k∈l,k<n):l.length<=n:=cE n l b a
def hLsE(C F:Le)(ac:Li)(rw:La)(acc:Li)(nx:La):AH:=⟨(Nd (Nd (Nd Lf (some (groR rw)) Lf) (some (groI F)) (Nd Lf (some (groR nx)) Lf)) (some (dfO C [groS 1 F.length,groS 2 ac.length,groS 3 rw.length])) (Nd (Nd Lf (some (groB acc)) Lf) (some (groB ac)) Lf)),6⟩
def lsV(n m:Nat):Value:=.tuple ⟨[.agg ⟨[.int .i64 0,groS 4 n,groS 5 m]⟩,.int .i64 0]⟩
def hLsF(C F:Le)(ac:Li)(rw:La)(o:Le)(al:La)(od:Le)(acc:Li)(nx:La):AH:=⟨(Nd (Nd (Nd (Nd Lf (some (groI od)) Lf) (some (groR rw)) (Nd Lf (some (groB acc)) Lf)) (some (groI F)) (Nd (Nd Lf (some (groI o)) Lf) (some (.cells [groS 9 o.length,groS 10 (roV al).length] 82)) Lf)) (some (dfO C [groS 1 F.length,groS 2 ac.length,groS 3 rw.length])) (Nd (Nd (Nd Lf (some (.cells [.int .i64 0,groS 11 acc.length,groS 12 nx.length] 25)) Lf) (some (.cells [.int .i64 0,groS 11 acc.length,groS 12 nx.length] 25)) (Nd Lf (some (groR nx)) Lf)) (some (groB ac)) (Nd (Nd Lf (some (groR al)) Lf) (some (.map (enI (mkM od)) od.length)) Lf))),13⟩
theorem end_ls(Q:Value->AH->Prop)(C F:Le)(ac:Li)(rw:La)(o:Le)(al:La)(od:Le)(acc:Li)(nx:La):endF env (hDf C F ac rw) [] [] [] Q (.tuple ⟨[.agg ⟨[.int .i64 0,groS 11 acc.length,groS 12 nx.length]⟩,.int .i64 0]⟩) (hLsF C F ac rw o al od acc nx)=(HF (.agg ⟨inV C⟩)/\HF (.agg ⟨inV F⟩)/\HF (.agg ⟨blV ac⟩)/\HF (.agg ⟨roV rw⟩)/\HF (.agg ⟨blV acc⟩)/\HF (.agg ⟨roV nx⟩)/\Q (lsV acc.length nx.length) (hLsE C F ac rw acc nx)):=by kernel_rfl
theorem FN(F:Lg)(ac:Li)(rw:La):(roV (alA (inF F) ac rw)).length=(alkD F ac rw).mem.length:=by rw[aH];unfold alA;rw[F7,FM]
theorem al_pre{C F:Le}(h:AlOk F ac rw):inV C=inV (List.map deI (inV C))/\(([]:Lh)=[]/\([]:Lh)=[]/\([]:Lh)=[])/\(inV F=inV F/\blV ac=blV ac/\roV rw=roV rw)/\(List.length F=List.length (inV F)/\List.length ac=List.length (blV ac)/\List.length rw=List.length (roV rw))/\AlOk F ac rw:=
 ⟨by rw[dn],⟨rfl,rfl,rfl⟩,⟨rfl,rfl,rfl⟩,⟨by rw[ah],by rw[be],by rw[aH]⟩,h⟩
def lsR(C:Le)(F:Lg)(ac:Li)(rw:La):La:=(lsT C F ac rw).map inF
theorem ye{b:Nat}(a:b<(alkD F ac rw).mem.length):∃ c:b<(alA (inF F) ac rw).length,(alA (inF F) ac rw)[b]=inF (mN (alkD F ac rw).mem b):=by
 have e:alA (inF F) ac rw=(alkD F ac rw).mem.map inF:=by unfold alA;rw[FM]
 refine⟨by rw[e,F7];exact a,?_⟩;rw[List.getElem_of_eq e,List.getElem_map];unfold mN;rw[gD a]
theorem Eu(e:PV rw.length (alkD F ac rw)){b:Nat}(d:b<(alkD F ac rw).mem.length):0<(mN (alkD F ac rw).mem b).length/\∀ f:0<(inF (mN (alkD F ac rw).mem b)).length,(inF (mN (alkD F ac rw).mem b))[0]=(hd (alkD F ac rw) b:Nat):=by
 have a:=e.ne b d;unfold hd;cases c:mN (alkD F ac rw).mem b with
 |nil=>exact absurd c a
 |cons x l=>exact⟨by simp,λ_=>rfl⟩
theorem HF_z(n:Nat):HF (.agg ⟨List.replicate n (Vi 0)⟩):=by rw[eV];exact ab _
theorem C4{C:Le}(h:LsOk C F ac rw)(hn:(alkD F ac rw).mem.length<=300):WalkF env f23 [.pointer (some ⟨0,0,none⟩)] (hDf C (inF F) ac rw) (lsV (lsA C F ac rw).length (lsR C F ac rw).length) (hLsE C (inF F) ac rw (lsA C F ac rw) (lsR C F ac rw)):=by
 have hl:=FN F ac rw;have hR:=h.al.rk.m;have O:=h.pv.le;obtain⟨I,B,z⟩:=h.of_at h.al.n0;have eS:(λk=>lsSc C F ac rw k)=lsSc C F ac rw:=rfl;have Y:aa (inV (alO (inF F) ac rw)) 0=(oN (alkD F ac rw).of 0:Nat):=by have:=aq B;rw[z]at this;exact this
 have D:nth (inV (alO (inF F) ac rw)) 0=some (Vi (oN (alkD F ac rw).of 0:Nat)):=by rw[aN B,z]
 refine aG (xM (inF F) ac rw) (d:=1) (ns:=[]) (zs:=[]) (ws:=[]) ((jLs_nf _ C (inF F) ac rw (alO (inF F) ac rw) (alA (inF F) ac rw)).mpr ⟨⟨ab _,ab _,az _,aE _,aE _,ab _,ab _,ab _,az _,aE _,al_pre h.al⟩,Sp.intro (λq=>absurd (odt q) (by omega)) (λq=>?_)⟩);rw[Y];refine⟨⟨by omega,by omega⟩,D,updI [] (oN (alkD F ac rw).of 0:Nat) 0,⟨by omega,by omega⟩,D,ab _,ab _,az _,aE _,ab [0],ab [_],ab _,aE _,az [],aE [],?_⟩;refine LAtZ.stepF (xM (inF F) ac rw) nsLs [.cell 7 2] [] slLs (by kernel_rfl) (λm G A=>∃ (i:Nat) (a:Lg),G=frLs (inF a).length i/\A=hLs C (inF F) ac rw (alO (inF F) ac rw) (alA (inF F) ac rw) (inF a) ((a.take i).map λb=>acN ac (hd (alkD F ac rw) b)) (bz (lsSc C F ac rw) a i)/\EI (lsSc C F ac rw) (λb=>b<(alkD F ac rw).mem.length) 90001 (oN (alkD F ac rw).of 0) a i/\i+m=90001) ?_ (k:=90001) ⟨0,[oN (alkD F ac rw).of 0],rfl,rfl,EI.init I,rfl⟩;rintro m G A ⟨i,a,rfl,rfl,e,Q⟩;have P:a.length<=300:=by have:=yR a e.nd e.inp;omega
 have R:=e.le;have g:=ao a;refine(Dt _ _ C (inF F) ac rw (alO (inF F) ac rw) (alA (inF F) ac rw) (inF a) _ _ i).mpr (Sp.intro (λq=>?_) (λq=>?_));have q:=odt q;rw[g]at q;have n:i<a.length:=by omega
 have j:=e.inp _ (Gc n);have u:a[i]? =some a[i]:=FZ n;obtain⟨v,f⟩:=e.step (λk j=>h.scf_in j) u (by omega);have t:((a.take i).map λb=>acN ac (hd (alkD F ac rw) b)).length=i:=by rw[F7,GK];omega
 have s:(bz (lsSc C F ac rw) a i).length=i:=by unfold bz;rw[F7,GK];omega
 have l:i<(inF a).length:=by omega
 obtain⟨y,x⟩:=ye j;obtain⟨S,E⟩:=Eu h.pv j;have c:0<(inF (mN (alkD F ac rw).mem a[i])).length:=by rw[ao];exact S
 have w:aa (inV (inF a)) (i:Int)=(a[i]:Nat):=by rw[aq l,bA n]
 have M:nth (inV (inF a)) i=some (Vi (a[i]:Nat)):=by rw[aN l,bA n]
 have o:ae (roV (alA (inF F) ac rw)) ((Int.toNat ((a[i]:Nat):Int)+0:Nat):Int)=inV (inF (mN (alkD F ac rw).mem a[i])):=by have:=bL y;rw[x]at this;exact this
 have L:nth (roV (alA (inF F) ac rw)) (Int.toNat ((Int.toNat ((a[i]:Nat):Int)+0:Nat):Int))=some (Vd 1 (inV (inF (mN (alkD F ac rw).mem a[i])))):=by have:=cK y;rw[x]at this;exact this
 have X:aa (inV (inF (mN (alkD F ac rw).mem a[i]))) 0=(hd (alkD F ac rw) a[i]:Nat):=by have:=aq c;rw[E c]at this;exact this
 have J:nth (inV (inF (mN (alkD F ac rw).mem a[i]))) 0=some (Vi (hd (alkD F ac rw) a[i]:Nat)):=by rw[aN c,E c]
 have l3:=ah (inF (mN (alkD F ac rw).mem a[i]));rw[w,o,X];refine⟨⟨by omega,by omega⟩,M,⟨by omega,by omega⟩,L,⟨by omega,by omega⟩,J,⟨by omega,by omega,by omega,by omega⟩,ab _,ab _,az _,aE _,sJ _,ab _,HF_z 256,ab _,aE _,az _,aE _,?_⟩;have p:=λ(K:KV) (Z:KF)=>yZ K Z h a e.nd e.inp a[i] j ((a.take i).map λb=>acN ac (hd (alkD F ac rw) b)) (bz (lsSc C F ac rw) a i) (by rw[t];omega) (by rw[s];omega) i (by omega);have z2:inV z256=inV (List.replicate 256 0):=rfl;refine p _ _ ?_;refine⟨m-1,by omega,i+1,addS a (lsSc C F ac rw a[i]),by rw[ao],?_,v,by omega⟩;rw[f];obtain⟨r,N⟩:=d7 (lsSc C F ac rw a[i]) a;have o:((addS a (lsSc C F ac rw a[i])).take (i+1)).map (λb=>acN ac (hd (alkD F ac rw) b))=((a.take i).map λb=>acN ac (hd (alkD F ac rw) b))++[acN ac (hd (alkD F ac rw) a[i])]:=by rw[N,Ix (by omega),Gz n,Gr];rfl
 rw[o];have q:=odf q;rw[g]at q;obtain⟨w,o⟩:=e.done (by omega) (by omega);subst w;have H:a=lsO C F ac rw:=by rw[o,jY];rfl
 have V:(a.take a.length).map (λb=>acN ac (hd (alkD F ac rw) b))=lsA C F ac rw:=by rw[GO,H];rfl
 have U:bz (lsSc C F ac rw) a a.length=lsR C F ac rw:=by rw[nI,H];rfl
 rw[V,U];refine(end_ls _ C (inF F) ac rw (alO (inF F) ac rw) (alA (inF F) ac rw) (inF a) (lsA C F ac rw) (lsR C F ac rw)).mpr ?_;exact⟨ab _,ab _,az _,aE _,az _,aE _,rfl,rfl⟩
theorem Em(C F:Le)(ac:Li)(rw:La)(acc:Li)(nx:La):aW [dfO C [groS 1 F.length,groS 2 ac.length,groS 3 rw.length],groI F,groB ac,groR rw,groB acc,groR nx]=hLsE C F ac rw acc nx:=by kernel_rfl
def LsP(C:Le)(F:Lg)(ac:Li)(rw:La)(Z:Prop)(els l1 l2 l3:Lh):Prop:=els=inV C/\(l1=inV (inF F)/\l2=blV ac/\l3=roV rw)/\LsOk C F ac rw/\Z
def spLs(P:Lh->Lh->Lh->Lh->Prop)(lv:Li)(lr:La):Lh->List AObj->Option (Ll×Value×List AObj)
 | [.pointer (some ⟨B,o,none⟩)],[.arr els [.slice (some ⟨B1,o1,none⟩) n1 k1,.slice (some ⟨B2,o2,none⟩) n2 k2,.slice (some ⟨B3,o3,none⟩) n3 k3] q e,.gro l1 t1 e1,.gro l2 t2 e2,.gro l3 t3 e3]=>
   bif ((Nat.beq B 0&&Nat.beq o 0)&&((Nat.beq B1 1&&Nat.beq o1 0)&&((Nat.beq B2 2&&Nat.beq o2 0)&&(Nat.beq B3 3&&Nat.beq o3 0))))&&(((Nat.beq k1 (unk+3+1)&&Nat.beq k2 (unk+3+1))&&(Nat.beq k3 (unk+3+1)&&Nat.beq q 256))&&((Nat.beq e 71&&Nat.beq e1 3)&&(Nat.beq e2 4&&Nat.beq e3 37)))then
    some (some ((t1=[]/\t2=[]/\t3=[])/\(n1=l1.length/\n2=l2.length/\n3=l3.length)/\P els l1 l2 l3),
     lsV lv.length lr.length,[.arr els [.slice (some ⟨1,0,none⟩) n1 k1,.slice (some ⟨2,0,none⟩) n2 k2,.slice (some ⟨3,0,none⟩) n3 k3] q e,.gro l1 [] e1,.gro l2 [] e2,.gro l3 [] e3,groB lv,groR lr])else none
 |_,_=>none
theorem ls_tab(C:Le)(F:Lg)(ac:Li)(rw:La):∀ args A p v A',frmR arD (spLs (LsP C F ac rw ((alkD F ac rw).mem.length<=300)) (lsA C F ac rw) (lsR C F ac rw)) args A=some (p,v,A')->PH p->CallAt env 23 args A v A':=bd ak (fn:=f23) rfl λargs c p v a h m=>by unfold spLs at h;split at h;rename_i B o b I u l y H t k x G s j w q e l1 i E l2 g D l3 f z;obtain⟨d,h⟩:=bv h;simp only[Ga]at h;obtain⟨rfl,rfl,rfl⟩:=h;simp only[f',Gj]at d;obtain⟨⟨⟨rfl,rfl⟩,⟨rfl,rfl⟩,⟨rfl,rfl⟩,rfl,rfl⟩,⟨⟨rfl,rfl⟩,rfl,rfl⟩,⟨rfl,rfl⟩,rfl,rfl⟩:=d;obtain⟨⟨rfl,rfl,rfl⟩,⟨rfl,rfl,rfl⟩,rfl,⟨rfl,rfl,rfl⟩,r,n⟩:(i=[]/\g=[]/\f=[])/\(l=l1.length/\k=l2.length/\j=l3.length)/\(b=inV C/\(l1=inV (inF F)/\l2=blV ac/\l3=roV rw)/\LsOk C F ac rw/\(alkD F ac rw).mem.length<=300):=m;rw[ah,be,aH];have:=C4 r n;rw[<-mo,<-Em]at this;exact this;cases h
def spSv(P:Value->Prop)(C F:Le)(ac:Li)(rw:La):Lh->List AObj->Option (Ll×Value×List AObj)
 | [u],[]=>some (some (P u),.pointer (some ⟨0,0,none⟩),dfB C F ac rw)
 |_,_=>none
theorem sv_tab{a:AU}(h:OkA a):∀ args A p v A',frmR noAr (spSv (λu=>u=auV a) (caS a) (inF (fsS a)) (accS a) (rowS a)) args A=some (p,v,A')->PH p->CallAt env 22 args A v A':=bd ak (fn:=f22) rfl λargs d p v c b e=>by unfold spSv at b;split at b;rename_i u;cases b;obtain rfl:u=auV a:=e;exact Cq h;cases b
def XRd(P1:Value->Prop)(C F:Le)(ac:Li)(rw:La)(P:Lh->Lh->Lh->Lh->Prop)(lv:Li)(lr:La):SX:=⟨env,[(5,bN caP caX),(28,bN afP afX),(22,frmR noAr (spSv P1 C F ac rw)),(23,frmR arD (spLs P lv lr))],noEl,λ_=>.unroll 0⟩
def jRd(K:KV)(P1:Value->Prop)(C F:Le)(ac:Li)(rw:La)(P:Lh->Lh->Lh->Lh->Prop)(lv:Li)(lr:La)(s:Int)(acc:Li)(nx:La):Prop:=bp (XRd P1 C F ac rw P lv lr) 2 f8 [.agg ⟨[.int .i64 s,dat 1 (blV acc),dat 1 (roV nx)]⟩] ⟨.leaf,0⟩ K
theorem ML(K:KV)(P1:Value->Prop)(C:Le)(F:Le)(ac:Li)(rw:La)(P:Lh->Lh->Lh->Lh->Prop)(lv:Li)(lr:La)(s:Int)(acc:Li)(nx:La):jRd K P1 C F ac rw P lv lr s acc nx=(WfV (f_ [Vi s,JF acc,U' nx])/\Sp (! decide (chkA (s,w_ acc,r_ nx)=0)) (K (Km [f_ [Vi 0,C_,C_],Vi (chkA (s,w_ acc,r_ nx))]) (AH.mk (JR (Sg D_) (u_ s acc nx)) 2)) (HFs [JF acc,U' nx,f_ (roV rw),f_ (blV ac),W_ F,W_ C] (PH (Prod.fst (some (P1 (f_ [Vi s,JF acc,U' nx])),h_,[d_ C F.length ac.length rw.length,e_ F,Z_ ac,P_ rw])))/\HFs [W_ C,W_ F,f_ (blV ac),f_ (roV rw),f_ (roV lr),f_ (blV lv),W_ C,W_ F,f_ (blV ac),f_ (roV rw)] (PH (Prod.fst (some ((([]:Lh)=[]/\([]:Lh)=[]/\([]:Lh)=[])/\(List.length F=List.length (inV F)/\List.length ac=List.length (blV ac)/\List.length rw=List.length (roV rw))/\P (inV C) (inV F) (blV ac) (roV rw)),Km [f_ [Vi 0,g_ 4 0 lv.length,g_ 5 0 lr.length],Vi 0],[d_ C F.length ac.length rw.length,e_ F,Z_ ac,P_ rw,Z_ lv,P_ lr])))/\K (Km [f_ [Vi 0,g_ 6 0 lv.length,g_ 7 0 lr.length],Vi 0]) (R_ (Ns (JR (Sg (P_ lr)) (e_ F)) (m_ [Vi 0,g_ 6 0 lv.length,g_ 7 0 lr.length] 25) (Sg (P_ rw))) (u_ s acc nx) (Ns (Sg (Z_ ac)) (AObj.arr (inV C) [g_ 3 0 F.length,g_ 4 0 ac.length,g_ 5 0 rw.length] 256 71) (Sg (Z_ lv))) 8))):=by kernel_rfl
theorem AL:type_of%(by have h:=@ML;revert h;delta b_ d_ e_ f_ g_ h_ k_ m_ r_ u_ w_ C_ D_ P_ R_ W_ Z_ U' JF JR Km;exact id):=@ML
theorem frzR{X:SX}(j:X.Ok){d:Nat}{fn:Func}{args:Lh}{v:Value}(h:bp X d fn args ⟨.leaf,0⟩ (λa l=>Frz l a v)):Walk X.E fn args v:=by unfold bp at h;split at h;rename_i c i;split at h;rename_i F k;cases b:Nat.ble args.length fn.ntmps;rw[b]at h;exact h.elim;rw[b]at h;refine⟨c,F,i,b,k,(jh j (d:=d) h).mono λm n o q=>?_⟩;obtain⟨g,a,f,e⟩:=fV q;exact⟨g,a,f,e⟩;exact h.elim;exact h.elim
theorem ga:∀ {l:Lh},(∀x∈l,x.cells.toList=[x])->an l=l
 | [],_=>rfl
 |x::l,h=>by rw[aV,h x (by simp),ga λy a=>h y (by simp[a])];rfl
theorem frzG{A:AH}{B n:Nat}{els:Lh}{e:TypeId}(f:A.t.get B=some (.gro els [] e))(d:n=els.length)(a:∀ x∈els,x.cells.toList=[x])(g:∀ x∈els,HF x):Frz A (.slice (some ⟨B,0,none⟩) n (unk+3+1)) (.func (.yield 1) ⟨els⟩ ⟨[]⟩):=by
 have b:∀ x∈els,x.cells.size=1:=λx c=>by have:=Ha List.length (a x c);simpa using this
 refine Frz.gsl (lo:=0) (sz:=1) (els0:=els) (c2:=els) f (Ge _) rfl rfl (by omega) (by omega) b (by omega) ?_ (ga a) b (by omega);rw[IK,d,GO,ga a];exact FrzL.same g
theorem oneB(l:Li):∀ x∈blV l,x.cells.toList=[x]:=λx a=>by obtain⟨b,_,rfl⟩:=F8.1 a;rfl
theorem oneR(l:La):∀ x∈roV l,x.cells.toList=[x]:=λx a=>by obtain⟨b,_,rfl⟩:=F8.1 a;rfl
theorem sr(key:Nat->LB):∀ n,∀x∈clsC key n,0<=x
 |0,x,h=>by obtain⟨_,rfl⟩:=HN.1 h;omega
 |n+1,x,h=>by rcases Hs (show x∈List.set _ _ _ from h)with h1|h1;exact sr key n x h1;omega
section
variable {S:Type}[DecidableEq S] {st:S->Nat->S}{P:S->Prop}{C:Le}{F:Lg}{s0:S}{ks:List S}{ac:S->Bool}
theorem GD.ls(h:GD st P C F s0 ks)(f:ks.length<=90000)(n:C.length=256)(e:∀ x∈C,0<=x)(p:F.length<=256):LsOk C F (ks.map ac) (bz (λk=>F.map (st k)) ks ks.length):=by have b:=GD.rlen (st:=st) (F:=F) ks;have o:0<ks.length:=HX h.mem0.1;refine⟨⟨⟨λr a=>?_,λr a x d=>?_,by omega,by rw[ao];omega⟩,by rw[F7,b],by omega⟩,n,λx d=>⟨e x d,?_⟩⟩;unfold bz at a;obtain⟨k,_,rfl⟩:=F8.1 a;rw[cN,F7,ao];unfold bz at a;rw[GO]at a;obtain⟨k,f,rfl⟩:=F8.1 a;obtain⟨s,m,rfl⟩:=F8.1 d;obtain⟨j,g⟩:=H5.1 f;have:=rF (h.ei.cl j k (F9.1 g).1 g s m);rw[b];omega;obtain⟨c,i,rfl⟩:=Iv.1 d;have l:=h.clN c;unfold Go.T9.clN at l;rw[H7 (by omega),gD i]at l;have:=e _ (Gc i);omega
end
theorem si_ls{a:AU}(h:OkA a):LsOk (caS a) (fsS a) (accS a) (rowS a)/\(alkD (fsS a) (accS a) (rowS a)).mem.length<=300:=by
 have e:=GD.single h;have r:(caS a).length=256:=mT _ _;have q:∀ x∈caS a,0<=x:=sr _ _;have p:(fsS a).length<=256:=i5 _ _;have y:(reS (fsS a) a).length<=300:=by have s:=h.n1;have:=cE 300 ((reS (fsS a) a).map λk=>k.1.toNat) ?_ λx n=>?_;simpa using this;refine JA _ ?_ (Jn.1 e.ei.nd);rintro⟨a1,b⟩ ⟨c,d⟩ ⟨g,f,hne⟩ he;have g:=e.ei.inp _ g;have f:=e.ei.inp _ f;obtain⟨⟨m,l⟩,j⟩:=g;obtain⟨⟨v,u⟩,t⟩:=f;dsimp only at*;exact hne (by rw[Ga];omega);obtain⟨k,o,rfl⟩:=F8.1 n;obtain⟨⟨m,l⟩,j⟩:=e.ei.inp _ o;omega
 have i:LsOk (caS a) (fsS a) (accS a) (rowS a):=e.ls (ac:=acS a) (by omega) r q p;refine⟨i,?_⟩;have:=i.pv.le;have w:(rowS a).length=(reS (fsS a) a).length:=GD.rlen _;omega
def leA(a:AU):AU:=(0,lsA (caS a) (fsS a) (accS a) (rowS a),lsR (caS a) (fsS a) (accS a) (rowS a))
def auE(a:AU)(e:Int):Value:=.tuple ⟨[auV a,.int .i64 e]⟩
def auN:AU:=(0,[],[])
def rdI(a:AU):AU×Int:=bif decide (chkA a=0)then(leA a,0)else(auN,chkA a)
theorem rd0{a:AU}(h:chkA a=0):rdI a=(leA a,0):=by unfold rdI;rw[decide_eq_true h];rfl
theorem rd1{a:AU}(h:¬ chkA a=0):rdI a=(auN,chkA a):=by unfold rdI;rw[IR h];rfl
theorem frzN(A:AH)(e:Int):Frz A (.tuple ⟨[.agg ⟨[.int .i64 0,nilS,nilS]⟩,.int .i64 e]⟩) (auE auN e):=
 .tuple (.cons (.agg (.cons (.same (HFi _ _)) (.cons (.nils 1) (.cons (.nils 1) .nil)))) (.cons (.same (HFi _ _)) .nil))
theorem frzL(A:AH){a:Li}{b:La}(d:A.t.get 6=some (groB a))(c:A.t.get 7=some (groR b)):Frz A (.tuple ⟨[.agg ⟨[.int .i64 0,groS 6 a.length,groS 7 b.length]⟩,.int .i64 0]⟩) (auE (0,a,b) 0):=
 .tuple (.cons (.agg (.cons (.same (HFi _ _)) (.cons (frzG d (by rw[be]) (oneB _) (aP _)) (.cons (frzG c (by rw[aH]) (oneR _) (aM _)) .nil)))) (.cons (.same (HFi _ _)) .nil))
theorem XRd_ok{a:AU}(h:OkA a):(XRd (λu=>u=auV a) (caS a) (inF (fsS a)) (accS a) (rowS a) (LsP (caS a) (fsS a) (accS a) (rowS a) ((alkD (fsS a) (accS a) (rowS a)).mem.length<=300)) (lsA (caS a) (fsS a) (accS a) (rowS a)) (lsR (caS a) (fsS a) (accS a) (rowS a))).Ok:=by have c:=sv_tab h;generalize caS a=C at*;generalize fsS a=F at*;generalize accS a=ac at*;generalize rowS a=rw at*;have b:=ls_tab C F ac rw;generalize lsA C F ac rw=lv at*;generalize lsR C F ac rw=lr at*;exact⟨ak,aF,ap,.cons sB (.cons xJ (.cons c (.cons b .nil)))⟩
theorem sn_tab:∀ args A p v A',frmR noAr (spSv (λ_=>False) [] [] [] []) args A=some (p,v,A')->PH p->CallAt env 22 args A v A':=bd ak (fn:=f22) rfl λargs c p v b a d=>by unfold spSv at a;split at a;cases a;exact False.elim d;cases a
theorem ln_tab:∀ args A p v A',frmR arD (spLs (λ_ _ _ _=>False) [] []) args A=some (p,v,A')->PH p->CallAt env 23 args A v A':=bd ak (fn:=f23) rfl λargs b p v a h c=>by unfold spLs at h;split at h;obtain⟨d,h⟩:=bv h;simp only[Ga]at h;obtain⟨rfl,rfl,rfl⟩:=h;exact False.elim (And.right (And.right (show _/\_/\False from c)));cases h
theorem XRn_ok:(XRd (λ_=>False) [] [] [] [] (λ_ _ _ _=>False) [] []).Ok:=⟨ak,aF,ap,.cons sB (.cons xJ (.cons sn_tab (.cons ln_tab .nil)))⟩
theorem CG{a:AU}(c:WfA a):Walk env f8 [auV a] (auE (rdI a).1 (rdI a).2):=by by_cases h:chkA a=0;have f:=sw c h;rw[rd0 h];obtain⟨i,g⟩:=si_ls f;have j:=XRd_ok f;unfold leA;generalize caS a=C at*;generalize fsS a=F at*;generalize accS a=ac at*;generalize rowS a=rw at*;generalize lsA C F ac rw=lv at*;generalize lsR C F ac rw=lr at*;refine frzR j (d:=2) ?_;refine(AL (λb e=>Frz e b (auE (0,lv,lr) 0)) _ C (inF F) ac rw _ lv lr a.1 a.2.1 a.2.2).mpr ?_;rw[cG,cg];refine⟨ky c,Sp.intro (λq=>absurd h (by simpa using q)) (λ_=>?_)⟩;refine⟨⟨.dat (aP _),.dat (aM _),aE _,az _,ab _,ab _,rfl⟩,⟨ab _,ab _,az _,aE _,aE _,az _,ab _,ab _,az _,aE _,⟨⟨rfl,rfl,rfl⟩,⟨by rw[ah],by rw[be],by rw[aH]⟩,rfl,⟨rfl,rfl,rfl⟩,i,g⟩⟩,frzL _ rfl rfl⟩;rw[rd1 h];refine frzR XRn_ok (d:=2) ?_;refine(AL (λb e=>Frz e b (auE auN (chkA a))) _ [] [] [] [] _ [] [] a.1 a.2.1 a.2.2).mpr ?_;rw[cG,cg];refine⟨ky c,Sp.intro (λ_=>frzN _ _) (λq=>absurd (by simpa using q) h)⟩
theorem MM(K:KV)(P:Value->Prop)(ra:Li)(rn:La)(s:Int)(acc:Li)(nx:La):jRr K P ra rn s acc nx=(WfV (f_ [Vi s,JF acc,U' nx])/\Sp (! decide (chkA (s,w_ acc,r_ nx)=0)) (K (Km [f_ [Vi 0,C_,C_],Vi (chkA (s,w_ acc,r_ nx))]) (AH.mk (JR (Sg D_) (u_ s acc nx)) 2)) (HFs [JF acc,U' nx,f_ (roV rn),f_ (blV ra)] (PH (Prod.fst (some (P (f_ [Vi s,JF acc,U' nx])),f_ [Vi 0,JX ra.length,g_ 1 0 rn.length],[Z_ ra,P_ rn])))/\K (Km [f_ [Vi 0,g_ 2 0 ra.length,g_ 3 0 rn.length],Vi 0]) (R_ (JR (Sg (P_ rn)) (m_ [Vi 0,g_ 2 0 ra.length,g_ 3 0 rn.length] 25)) (u_ s acc nx) (Sg (Z_ ra)) 4))):=by kernel_rfl
theorem AK:type_of%(by have h:=@MM;revert h;delta b_ f_ g_ k_ m_ r_ u_ w_ C_ D_ P_ R_ Z_ U' JF JR JX Km;exact id):=@MM
theorem AI{a:AU}(h:OkA a):leA a=(0,reA a,reR a):=by obtain⟨c,b⟩:=qQ h;unfold leA reA reR lsR;rw[c,b]
theorem frzM(A:AH){a:Li}{b:La}(d:A.t.get 2=some (groB a))(c:A.t.get 3=some (groR b)):Frz A (.tuple ⟨[.agg ⟨[.int .i64 0,groS 2 a.length,groS 3 b.length]⟩,.int .i64 0]⟩) (auE (0,a,b) 0):=
 .tuple (.cons (.agg (.cons (.same (HFi _ _)) (.cons (frzG d (by rw[be]) (oneB _) (aP _)) (.cons (frzG c (by rw[aH]) (oneR _) (aM _)) .nil)))) (.cons (.same (HFi _ _)) .nil))
theorem xK{P:Value->Prop}{b:Li}{a:La}(h:∀ args A p v A',frmR noAr (spLe P b a) args A=some (p,v,A')->PH p->CallAt env 24 args A v A'):(XRr P b a).Ok:=⟨ak,aF,ap,.cons Bg (.cons ru_tab (.cons h .nil))⟩
theorem Cx{a:AU}(c:WfA a):Walk env f9 [auV a] (auE (rdI a).1 (rdI a).2):=by by_cases h:chkA a=0;have f:=sw c h;rw[rd0 h,AI f];have g:=xK (le_tab f.toL);generalize reA a=ra at*;generalize reR a=rn at*;refine frzR g (d:=2) ?_;refine(AK (λb e=>Frz e b (auE (0,ra,rn) 0)) _ ra rn a.1 a.2.1 a.2.2).mpr ?_;rw[cG,cg];refine⟨ky c,Sp.intro (λq=>absurd h (by simpa using q)) (λ_=>?_)⟩;exact⟨⟨.dat (aP _),.dat (aM _),aE _,az _,rfl⟩,frzM _ rfl rfl⟩;rw[rd1 h];refine frzR (xK Da) (d:=2) ?_;refine(AK (λb e=>Frz e b (auE auN (chkA a))) _ [] [] a.1 a.2.1 a.2.2).mpr ?_;rw[cG,cg];refine⟨ky c,Sp.intro (λ_=>frzN _ _) (λq=>absurd (by simpa using q) h)⟩
theorem OkA.move{a:AU}(h:OkA a){q:Int}(b:0<=q/\q<a.2.2.length):OkA (q,a.2.1,a.2.2):=⟨h.wf,h.n0,h.n1,h.acc,h.row,b,h.ent⟩
end
end Go.T9
