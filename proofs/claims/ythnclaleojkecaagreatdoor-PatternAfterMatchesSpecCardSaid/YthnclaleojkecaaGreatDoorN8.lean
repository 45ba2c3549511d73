/- A part of the proof. -/
import Derived.Test.YthnclaleojkecaaGreatDoorN7
import Derived.Test.YthnclaleojkecaaGreatDoorX2
import Derived.Test.YthnclaleojkecaaGreatDoorX3
import Derived.Test.YthnclaleojkecaaGreatDoorX4
import Derived.Test.YthnclaleojkecaaGreatDoorX1
import Derived.Test.YthnclaleojkecaaGreatDoorY2
import Derived.Test.YthnclaleojkecaaGreatDoorY3
set_option linter.unusedVariables false
set_option linter.unusedSimpArgs false
set_option maxRecDepth 1000000
set_option maxHeartbeats 1000000
namespace Go.T9
open Go Go.AM Go.MK Go.HK Go.Proofs.Tryz
noncomputable section
variable {rw:La}{F:Lg}{ac:Li}
theorem y4{n:Nat}(l:Lg)(b:l.Nodup)(a:∀ k∈l,k<n):l.length<=n:=cF n l b a
def hLsE(C F:Le)(ac:Li)(rw:La)(acc:Li)(nx:La):AH:=⟨(Nd (Nd (Nd Lf (some (groR rw)) Lf) (some (groI F)) (Nd Lf (some (groR nx)) Lf)) (some (dfO C [groS 1 F.length,groS 2 ac.length,groS 3 rw.length])) (Nd (Nd Lf (some (groB acc)) Lf) (some (groB ac)) Lf)),6⟩
def lsV(n m:Nat):Value:=.tuple ⟨[.agg ⟨[.int .i64 0,groS 4 n,groS 5 m]⟩,.int .i64 0]⟩
def hLsF(C F:Le)(ac:Li)(rw:La)(o:Le)(al:La)(od:Le)(acc:Li)(nx:La):AH:=⟨(Nd (Nd (Nd (Nd Lf (some (groI od)) Lf) (some (groR rw)) (Nd Lf (some (groB acc)) Lf)) (some (groI F)) (Nd (Nd Lf (some (groI o)) Lf) (some (.cells [groS 9 o.length,groS 10 (roV al).length] 82)) Lf)) (some (dfO C [groS 1 F.length,groS 2 ac.length,groS 3 rw.length])) (Nd (Nd (Nd Lf (some (.cells [.int .i64 0,groS 11 acc.length,groS 12 nx.length] 25)) Lf) (some (.cells [.int .i64 0,groS 11 acc.length,groS 12 nx.length] 25)) (Nd Lf (some (groR nx)) Lf)) (some (groB ac)) (Nd (Nd Lf (some (groR al)) Lf) (some (.map (enI (mkM od)) od.length)) Lf))),13⟩
theorem end_ls(Q:Value->AH->Prop)(C F:Le)(ac:Li)(rw:La)(o:Le)(al:La)(od:Le)(acc:Li)(nx:La):endF env (hDf C F ac rw) [] [] [] Q (.tuple ⟨[.agg ⟨[.int .i64 0,groS 11 acc.length,groS 12 nx.length]⟩,.int .i64 0]⟩) (hLsF C F ac rw o al od acc nx)=(HF (.agg ⟨inV C⟩)/\HF (.agg ⟨inV F⟩)/\HF (.agg ⟨blV ac⟩)/\HF (.agg ⟨roV rw⟩)/\HF (.agg ⟨blV acc⟩)/\HF (.agg ⟨roV nx⟩)/\Q (lsV acc.length nx.length) (hLsE C F ac rw acc nx)):=by kernel_rfl
theorem Gh(F:Lg)(ac:Li)(rw:La):(roV (alA (inF F) ac rw)).length=(alkD F ac rw).mem.length:=by rw[aL];unfold alA;rw[Gu,Gg]
theorem al_pre{C F:Le}(h:AlOk F ac rw):inV C=inV (List.map deI (inV C))/\(([]:Lh)=[]/\([]:Lh)=[]/\([]:Lh)=[])/\(inV F=inV F/\blV ac=blV ac/\roV rw=roV rw)/\(List.length F=List.length (inV F)/\List.length ac=List.length (blV ac)/\List.length rw=List.length (roV rw))/\AlOk F ac rw:=
 ⟨by rw[dp],⟨rfl,rfl,rfl⟩,⟨rfl,rfl,rfl⟩,⟨by rw[ah],by rw[bc],by rw[aL]⟩,h⟩
def lsR(C:Le)(F:Lg)(ac:Li)(rw:La):La:=(lsT C F ac rw).map inF
theorem yo{b:Nat}(a:b<(alkD F ac rw).mem.length):∃ c:b<(alA (inF F) ac rw).length,(alA (inF F) ac rw)[b]=inF (mN (alkD F ac rw).mem b):=by
 have e:alA (inF F) ac rw=(alkD F ac rw).mem.map inF:=by unfold alA;rw[Gg]
 refine⟨by rw[e,Gu];exact a,?_⟩;rw[List.getElem_of_eq e,List.getElem_map];unfold mN;rw[gD a]
theorem EH(e:PV rw.length (alkD F ac rw)){b:Nat}(d:b<(alkD F ac rw).mem.length):0<(mN (alkD F ac rw).mem b).length/\∀ f:0<(inF (mN (alkD F ac rw).mem b)).length,(inF (mN (alkD F ac rw).mem b))[0]=(hd (alkD F ac rw) b:Nat):=by
 have a:=e.ne b d;unfold hd;cases c:mN (alkD F ac rw).mem b with
 |nil=>exact absurd c a
 |cons x l=>exact⟨by simp,λ_=>rfl⟩
theorem HF_z(n:Nat):HF (.agg ⟨List.replicate n (Vi 0)⟩):=by rw[e7];exact ab _
theorem Dc{C:Le}(h:LsOk C F ac rw)(hn:(alkD F ac rw).mem.length<=300):WalkF env f23 [.pointer (some ⟨0,0,none⟩)] (hDf C (inF F) ac rw) (lsV (lsA C F ac rw).length (lsR C F ac rw).length) (hLsE C (inF F) ac rw (lsA C F ac rw) (lsR C F ac rw)):=by
 have hl:=Gh F ac rw;have hR:=h.al.rk.m;have O:=h.pv.le;obtain⟨I,B,z⟩:=h.of_at h.al.n0;have eS:(λk=>lsSc C F ac rw k)=lsSc C F ac rw:=rfl;have Y:aa (inV (alO (inF F) ac rw)) 0=(oN (alkD F ac rw).of 0:Nat):=by have:=aq B;rw[z]at this;exact this
 have D:nth (inV (alO (inF F) ac rw)) 0=some (Vi (oN (alkD F ac rw).of 0:Nat)):=by rw[aP B,z]
 refine aJ (xU (inF F) ac rw) (d:=1) (ns:=[]) (zs:=[]) (ws:=[]) ((jLs_nf _ C (inF F) ac rw (alO (inF F) ac rw) (alA (inF F) ac rw)).mpr ⟨⟨ab _,ab _,aC _,aH _,aH _,ab _,ab _,ab _,aC _,aH _,al_pre h.al⟩,Sp.intro (λq=>absurd (odt q) (by omega)) (λq=>?_)⟩);rw[Y];refine⟨⟨by omega,by omega⟩,D,updI [] (oN (alkD F ac rw).of 0:Nat) 0,⟨by omega,by omega⟩,D,ab _,ab _,aC _,aH _,ab [0],ab [_],ab _,aH _,aC [],aH [],?_⟩;refine LAtZ.stepF (xU (inF F) ac rw) nsLs [.cell 7 2] [] slLs (by kernel_rfl) (λm G A=>∃ (i:Nat) (a:Lg),G=frLs (inF a).length i/\A=hLs C (inF F) ac rw (alO (inF F) ac rw) (alA (inF F) ac rw) (inF a) ((a.take i).map λb=>acN ac (hd (alkD F ac rw) b)) (bA (lsSc C F ac rw) a i)/\EI (lsSc C F ac rw) (λb=>b<(alkD F ac rw).mem.length) 90001 (oN (alkD F ac rw).of 0) a i/\i+m=90001) ?_ (k:=90001) ⟨0,[oN (alkD F ac rw).of 0],rfl,rfl,EI.init I,rfl⟩;rintro m G A ⟨i,a,rfl,rfl,e,Q⟩;have P:a.length<=300:=by have:=y4 a e.nd e.inp;omega
 have R:=e.le;have g:=ao a;refine(DB _ _ C (inF F) ac rw (alO (inF F) ac rw) (alA (inF F) ac rw) (inF a) _ _ i).mpr (Sp.intro (λq=>?_) (λq=>?_));have q:=odt q;rw[g]at q;have n:i<a.length:=by omega
 have j:=e.inp _ (Gy n);have u:a[i]? =some a[i]:=Gq n;obtain⟨v,f⟩:=e.step (λk j=>h.scf_in j) u (by omega);have t:((a.take i).map λb=>acN ac (hd (alkD F ac rw) b)).length=i:=by rw[Gu,Hd];omega
 have s:(bA (lsSc C F ac rw) a i).length=i:=by unfold bA;rw[Gu,Hd];omega
 have l:i<(inF a).length:=by omega
 obtain⟨y,x⟩:=yo j;obtain⟨S,E⟩:=EH h.pv j;have c:0<(inF (mN (alkD F ac rw).mem a[i])).length:=by rw[ao];exact S
 have w:aa (inV (inF a)) (i:Int)=(a[i]:Nat):=by rw[aq l,bF n]
 have M:nth (inV (inF a)) i=some (Vi (a[i]:Nat)):=by rw[aP l,bF n]
 have o:ae (roV (alA (inF F) ac rw)) ((Int.toNat ((a[i]:Nat):Int)+0:Nat):Int)=inV (inF (mN (alkD F ac rw).mem a[i])):=by have:=bM y;rw[x]at this;exact this
 have L:nth (roV (alA (inF F) ac rw)) (Int.toNat ((Int.toNat ((a[i]:Nat):Int)+0:Nat):Int))=some (Vd 1 (inV (inF (mN (alkD F ac rw).mem a[i])))):=by have:=cK y;rw[x]at this;exact this
 have X:aa (inV (inF (mN (alkD F ac rw).mem a[i]))) 0=(hd (alkD F ac rw) a[i]:Nat):=by have:=aq c;rw[E c]at this;exact this
 have J:nth (inV (inF (mN (alkD F ac rw).mem a[i]))) 0=some (Vi (hd (alkD F ac rw) a[i]:Nat)):=by rw[aP c,E c]
 have l3:=ah (inF (mN (alkD F ac rw).mem a[i]));rw[w,o,X];refine⟨⟨by omega,by omega⟩,M,⟨by omega,by omega⟩,L,⟨by omega,by omega⟩,J,⟨by omega,by omega,by omega,by omega⟩,ab _,ab _,aC _,aH _,sR _,ab _,HF_z 256,ab _,aH _,aC _,aH _,?_⟩;have p:=λ(K:KV) (Z:KF)=>zc K Z h a e.nd e.inp a[i] j ((a.take i).map λb=>acN ac (hd (alkD F ac rw) b)) (bA (lsSc C F ac rw) a i) (by rw[t];omega) (by rw[s];omega) i (by omega);have z2:inV z256=inV (List.replicate 256 0):=rfl;refine p _ _ ?_;refine⟨m-1,by omega,i+1,addS a (lsSc C F ac rw a[i]),by rw[ao],?_,v,by omega⟩;rw[f];obtain⟨r,N⟩:=eG (lsSc C F ac rw a[i]) a;have o:((addS a (lsSc C F ac rw a[i])).take (i+1)).map (λb=>acN ac (hd (alkD F ac rw) b))=((a.take i).map λb=>acN ac (hd (alkD F ac rw) b))++[acN ac (hd (alkD F ac rw) a[i])]:=by rw[N,IU (by omega),GU n,GM];rfl
 rw[o];have q:=odf q;rw[g]at q;obtain⟨w,o⟩:=e.done (by omega) (by omega);subst w;have H:a=lsO C F ac rw:=by rw[o,ka];rfl
 have V:(a.take a.length).map (λb=>acN ac (hd (alkD F ac rw) b))=lsA C F ac rw:=by rw[Hh,H];rfl
 have U:bA (lsSc C F ac rw) a a.length=lsR C F ac rw:=by rw[nU,H];rfl
 rw[V,U];refine(end_ls _ C (inF F) ac rw (alO (inF F) ac rw) (alA (inF F) ac rw) (inF a) (lsA C F ac rw) (lsR C F ac rw)).mpr ?_;exact⟨ab _,ab _,aC _,aH _,aC _,aH _,rfl,rfl⟩
theorem EA(C F:Le)(ac:Li)(rw:La)(acc:Li)(nx:La):aW [dfO C [groS 1 F.length,groS 2 ac.length,groS 3 rw.length],groI F,groB ac,groR rw,groB acc,groR nx]=hLsE C F ac rw acc nx:=by kernel_rfl
def LsP(C:Le)(F:Lg)(ac:Li)(rw:La)(Z:Prop)(els l1 l2 l3:Lh):Prop:=els=inV C/\(l1=inV (inF F)/\l2=blV ac/\l3=roV rw)/\LsOk C F ac rw/\Z
def spLs(P:Lh->Lh->Lh->Lh->Prop)(lv:Li)(lr:La):Lh->List AObj->Option (Ll×Value×List AObj)
 | [.pointer (some ⟨B,o,none⟩)],[.arr els [.slice (some ⟨B1,o1,none⟩) n1 k1,.slice (some ⟨B2,o2,none⟩) n2 k2,.slice (some ⟨B3,o3,none⟩) n3 k3] q e,.gro l1 t1 e1,.gro l2 t2 e2,.gro l3 t3 e3]=>
   bif ((Nat.beq B 0&&Nat.beq o 0)&&((Nat.beq B1 1&&Nat.beq o1 0)&&((Nat.beq B2 2&&Nat.beq o2 0)&&(Nat.beq B3 3&&Nat.beq o3 0))))&&(((Nat.beq k1 (unk+3+1)&&Nat.beq k2 (unk+3+1))&&(Nat.beq k3 (unk+3+1)&&Nat.beq q 256))&&((Nat.beq e 71&&Nat.beq e1 3)&&(Nat.beq e2 4&&Nat.beq e3 37)))then
    some (some ((t1=[]/\t2=[]/\t3=[])/\(n1=l1.length/\n2=l2.length/\n3=l3.length)/\P els l1 l2 l3),
     lsV lv.length lr.length,[.arr els [.slice (some ⟨1,0,none⟩) n1 k1,.slice (some ⟨2,0,none⟩) n2 k2,.slice (some ⟨3,0,none⟩) n3 k3] q e,.gro l1 [] e1,.gro l2 [] e2,.gro l3 [] e3,groB lv,groR lr])else none
 |_,_=>none
theorem ls_tab(C:Le)(F:Lg)(ac:Li)(rw:La):∀ args A p v A',frmR arD (spLs (LsP C F ac rw ((alkD F ac rw).mem.length<=300)) (lsA C F ac rw) (lsR C F ac rw)) args A=some (p,v,A')->PH p->CallAt env 23 args A v A':=be am (fn:=f23) rfl λargs c p v a h m=>by unfold spLs at h;split at h;rename_i B o b I u l y H t k x G s j w q e l1 i E l2 g D l3 f z;obtain⟨d,h⟩:=bw h;simp only[Gx]at h;obtain⟨rfl,rfl,rfl⟩:=h;simp only[f',GG]at d;obtain⟨⟨⟨rfl,rfl⟩,⟨rfl,rfl⟩,⟨rfl,rfl⟩,rfl,rfl⟩,⟨⟨rfl,rfl⟩,rfl,rfl⟩,⟨rfl,rfl⟩,rfl,rfl⟩:=d;obtain⟨⟨rfl,rfl,rfl⟩,⟨rfl,rfl,rfl⟩,rfl,⟨rfl,rfl,rfl⟩,r,n⟩:(i=[]/\g=[]/\f=[])/\(l=l1.length/\k=l2.length/\j=l3.length)/\(b=inV C/\(l1=inV (inF F)/\l2=blV ac/\l3=roV rw)/\LsOk C F ac rw/\(alkD F ac rw).mem.length<=300):=m;rw[ah,bc,aL];have:=Dc r n;rw[<-mF,<-EA]at this;exact this;cases h
def spSv(P:Value->Prop)(C F:Le)(ac:Li)(rw:La):Lh->List AObj->Option (Ll×Value×List AObj)
 | [u],[]=>some (some (P u),.pointer (some ⟨0,0,none⟩),dfB C F ac rw)
 |_,_=>none
theorem sv_tab{a:AU}(h:OkA a):∀ args A p v A',frmR noAr (spSv (λu=>u=auV a) (caS a) (inF (fsS a)) (accS a) (rowS a)) args A=some (p,v,A')->PH p->CallAt env 22 args A v A':=be am (fn:=f22) rfl λargs d p v c b e=>by unfold spSv at b;split at b;rename_i u;cases b;obtain rfl:u=auV a:=e;exact CA h;cases b
def XRd(P1:Value->Prop)(C F:Le)(ac:Li)(rw:La)(P:Lh->Lh->Lh->Lh->Prop)(lv:Li)(lr:La):SX:=⟨env,[(5,bD caP caX),(28,bD afP afX),(22,frmR noAr (spSv P1 C F ac rw)),(23,frmR arD (spLs P lv lr))],noEl,λ_=>.unroll 0⟩
def jPf(K:KV)(P1:Value->Prop)(C F:Le)(ac:Li)(rw:La)(P:Lh->Lh->Lh->Lh->Prop)(lv:Li)(lr:La)(s:Int)(acc:Li)(nx:La)(t:ByteArray):Prop:=bh (XRd P1 C F ac rw P lv lr) 2 f11 [.agg ⟨[.int .i64 s,dat 1 (blV acc),dat 1 (roV nx)]⟩,.string t] ⟨.leaf,0⟩ K
theorem Nu(K:KV)(P1:Value->Prop)(C:Le)(F:Le)(ac:Li)(rw:La)(P:Lh->Lh->Lh->Lh->Prop)(lv:Li)(lr:La)(s:Int)(acc:Li)(nx:La)(t:ByteArray):jPf K P1 C F ac rw P lv lr s acc nx t=(WfV (f_ [Vi s,O' acc,W_ nx])/\Sp (! decide (chkA (s,u_ acc,p_ nx)=0)) (K (Ki [f_ [Vi 0,A_,A_],Vi (chkA (s,u_ acc,p_ nx))]) (AH.mk (Kd (Sg C_) (l_ s acc nx)) 2)) ((okV (f_ [Vi s,O' acc,W_ nx])/\ByteArray.size t<9223372036854775808)/\HFs [O' acc,W_ nx,f_ (roV rw),f_ (blV ac),Ls F,Ls C] (PH (Prod.fst (some (P1 (f_ [Vi (runI (p_ nx) s t.data.toList),O' acc,W_ nx])),h_,[d_ C F.length ac.length rw.length,e_ F,Z_ ac,O_ rw])))/\HFs [Ls C,Ls F,f_ (blV ac),f_ (roV rw),f_ (roV lr),f_ (blV lv),Ls C,Ls F,f_ (blV ac),f_ (roV rw)] (PH (Prod.fst (some ((([]:Lh)=[]/\([]:Lh)=[]/\([]:Lh)=[])/\(List.length F=List.length (inV F)/\List.length ac=List.length (blV ac)/\List.length rw=List.length (roV rw))/\P (inV C) (inV F) (blV ac) (roV rw)),Ki [f_ [Vi 0,g_ 4 0 lv.length,g_ 5 0 lr.length],Vi 0],[d_ C F.length ac.length rw.length,e_ F,Z_ ac,O_ rw,Z_ lv,O_ lr])))/\K (Ki [f_ [Vi 0,g_ 6 0 lv.length,g_ 7 0 lr.length],Vi 0]) (Q_ (Ns (Kd (Sg (O_ lr)) (e_ F)) (n_ [Vi 0,g_ 6 0 lv.length,g_ 7 0 lr.length] 25) (Sg (O_ rw))) (n_ [Vi (runI (p_ nx) s t.data.toList),O' acc,W_ nx] 25) (Ns (Sg (Z_ ac)) (AObj.arr (inV C) [g_ 3 0 F.length,g_ 4 0 ac.length,g_ 5 0 rw.length] 256 71) (Sg (Z_ lv))) 8))):=by kernel_rfl
theorem Ba:type_of%(by have h:=@Nu;revert h;delta b_ d_ e_ f_ g_ h_ k_ l_ n_ p_ u_ A_ C_ O_ Q_ W_ Z_ O' Kd Ki Ls;exact id):=@Nu
theorem frzR{X:SX}(j:X.Ok){d:Nat}{fn:Func}{args:Lh}{v:Value}(h:bh X d fn args ⟨.leaf,0⟩ (λa l=>Frz l a v)):Walk X.E fn args v:=by unfold bh at h;split at h;rename_i c i;split at h;rename_i F k;cases b:Nat.ble args.length fn.ntmps;rw[b]at h;exact h.elim;rw[b]at h;refine⟨c,F,i,b,k,(jt j (d:=d) h).mono λm n o q=>?_⟩;obtain⟨g,a,f,e⟩:=ga q;exact⟨g,a,f,e⟩;exact h.elim;exact h.elim
theorem gh:∀ {l:Lh},(∀x∈l,x.cells.toList=[x])->an l=l
 | [],_=>rfl
 |x::l,h=>by rw[aV,h x (by simp),gh λy a=>h y (by simp[a])];rfl
theorem frzG{A:AH}{B n:Nat}{els:Lh}{e:TypeId}(f:A.t.get B=some (.gro els [] e))(d:n=els.length)(a:∀ x∈els,x.cells.toList=[x])(g:∀ x∈els,HF x):Frz A (.slice (some ⟨B,0,none⟩) n (unk+3+1)) (.func (.yield 1) ⟨els⟩ ⟨[]⟩):=by
 have b:∀ x∈els,x.cells.size=1:=λx c=>by have:=Hu List.length (a x c);simpa using this
 refine Frz.gsl (lo:=0) (sz:=1) (els0:=els) (c2:=els) f (GA _) rfl rfl (by omega) (by omega) b (by omega) ?_ (gh a) b (by omega);rw[I7,d,Hh,gh a];exact FrzL.same g
theorem oneB(l:Li):∀ x∈blV l,x.cells.toList=[x]:=λx a=>by obtain⟨b,_,rfl⟩:=Gv.1 a;rfl
theorem oneR(l:La):∀ x∈roV l,x.cells.toList=[x]:=λx a=>by obtain⟨b,_,rfl⟩:=Gv.1 a;rfl
theorem sD(key:Nat->LB):∀ n,∀x∈clsC key n,0<=x
 |0,x,h=>by obtain⟨_,rfl⟩:=If.1 h;omega
 |n+1,x,h=>by rcases HT (show x∈List.set _ _ _ from h)with h1|h1;exact sD key n x h1;omega
section
variable {S:Type}[DecidableEq S] {st:S->Nat->S}{P:S->Prop}{C:Le}{F:Lg}{s0:S}{ks:List S}{ac:S->Bool}
theorem GD.ls(h:GD st P C F s0 ks)(f:ks.length<=90000)(n:C.length=256)(e:∀ x∈C,0<=x)(p:F.length<=256):LsOk C F (ks.map ac) (bA (λk=>F.map (st k)) ks ks.length):=by have b:=GD.rlen (st:=st) (F:=F) ks;have o:0<ks.length:=In h.mem0.1;refine⟨⟨⟨λr a=>?_,λr a x d=>?_,by omega,by rw[ao];omega⟩,by rw[Gu,b],by omega⟩,n,λx d=>⟨e x d,?_⟩⟩;unfold bA at a;obtain⟨k,_,rfl⟩:=Gv.1 a;rw[cN,Gu,ao];unfold bA at a;rw[Hh]at a;obtain⟨k,f,rfl⟩:=Gv.1 a;obtain⟨s,m,rfl⟩:=Gv.1 d;obtain⟨j,g⟩:=Is.1 f;have:=rT (h.ei.cl j k (Gw.1 g).1 g s m);rw[b];omega;obtain⟨c,i,rfl⟩:=IS.1 d;have l:=h.clN c;unfold Go.T9.clN at l;rw[Iu (by omega),gD i]at l;have:=e _ (Gy i);omega
end
variable {t:ByteArray}
theorem si_ls{a:AU}(h:OkA a):LsOk (caS a) (fsS a) (accS a) (rowS a)/\(alkD (fsS a) (accS a) (rowS a)).mem.length<=300:=by
 have e:=GD.single h;have r:(caS a).length=256:=m8 _ _;have q:∀ x∈caS a,0<=x:=sD _ _;have p:(fsS a).length<=256:=je _ _;have z:(reS (fsS a) a).length<=300:=by have s:=h.n1;have:=cF 300 ((reS (fsS a) a).map λk=>k.1.toNat) ?_ λx n=>?_;simpa using this;refine JU _ ?_ (JH.1 e.ei.nd);rintro⟨a1,b⟩ ⟨c,d⟩ ⟨g,f,hne⟩ he;have g:=e.ei.inp _ g;have f:=e.ei.inp _ f;obtain⟨⟨m,l⟩,j⟩:=g;obtain⟨⟨w,v⟩,u⟩:=f;dsimp only at*;exact hne (by rw[Gx];omega);obtain⟨k,o,rfl⟩:=Gv.1 n;obtain⟨⟨m,l⟩,j⟩:=e.ei.inp _ o;omega
 have i:LsOk (caS a) (fsS a) (accS a) (rowS a):=e.ls (ac:=acS a) (by omega) r q p;refine⟨i,?_⟩;have:=i.pv.le;have y:(rowS a).length=(reS (fsS a) a).length:=GD.rlen _;omega
def leA(a:AU):AU:=(0,lsA (caS a) (fsS a) (accS a) (rowS a),lsR (caS a) (fsS a) (accS a) (rowS a))
def auE(a:AU)(e:Int):Value:=.tuple ⟨[auV a,.int .i64 e]⟩
def auN:AU:=(0,[],[])
theorem frzN(A:AH)(e:Int):Frz A (.tuple ⟨[.agg ⟨[.int .i64 0,nilS,nilS]⟩,.int .i64 e]⟩) (auE auN e):=
 .tuple (.cons (.agg (.cons (.same (HFi _ _)) (.cons (.nils 1) (.cons (.nils 1) .nil)))) (.cons (.same (HFi _ _)) .nil))
theorem frzL(A:AH){a:Li}{b:La}(d:A.t.get 6=some (groB a))(c:A.t.get 7=some (groR b)):Frz A (.tuple ⟨[.agg ⟨[.int .i64 0,groS 6 a.length,groS 7 b.length]⟩,.int .i64 0]⟩) (auE (0,a,b) 0):=
 .tuple (.cons (.agg (.cons (.same (HFi _ _)) (.cons (frzG d (by rw[bc]) (oneB _) (aN _)) (.cons (frzG c (by rw[aL]) (oneR _) (aK _)) .nil)))) (.cons (.same (HFi _ _)) .nil))
theorem XRd_ok{a:AU}(h:OkA a):(XRd (λu=>u=auV a) (caS a) (inF (fsS a)) (accS a) (rowS a) (LsP (caS a) (fsS a) (accS a) (rowS a) ((alkD (fsS a) (accS a) (rowS a)).mem.length<=300)) (lsA (caS a) (fsS a) (accS a) (rowS a)) (lsR (caS a) (fsS a) (accS a) (rowS a))).Ok:=by have c:=sv_tab h;generalize caS a=C at*;generalize fsS a=F at*;generalize accS a=ac at*;generalize rowS a=rw at*;have b:=ls_tab C F ac rw;generalize lsA C F ac rw=lv at*;generalize lsR C F ac rw=lr at*;exact⟨am,aE,ap,.cons sJ (.cons xR (.cons c (.cons b .nil)))⟩
theorem sn_tab:∀ args A p v A',frmR noAr (spSv (λ_=>False) [] [] [] []) args A=some (p,v,A')->PH p->CallAt env 22 args A v A':=be am (fn:=f22) rfl λargs c p v b a d=>by unfold spSv at a;split at a;cases a;exact False.elim d;cases a
theorem ln_tab:∀ args A p v A',frmR arD (spLs (λ_ _ _ _=>False) [] []) args A=some (p,v,A')->PH p->CallAt env 23 args A v A':=be am (fn:=f23) rfl λargs b p v a h c=>by unfold spLs at h;split at h;obtain⟨d,h⟩:=bw h;simp only[Gx]at h;obtain⟨rfl,rfl,rfl⟩:=h;exact False.elim (And.right (And.right (show _/\_/\False from c)));cases h
theorem XRn_ok:(XRd (λ_=>False) [] [] [] [] (λ_ _ _ _=>False) [] []).Ok:=⟨am,aE,ap,.cons sJ (.cons xR (.cons sn_tab (.cons ln_tab .nil)))⟩
def afI(a:AU)(t:LB):AU×Int:=bif decide (chkA a=0)then(leA (runI a.2.2 a.1 t,a.2.1,a.2.2),0)else(auN,chkA a)
theorem af0{a:AU}{t:LB}(h:chkA a=0):afI a t=(leA (runI a.2.2 a.1 t,a.2.1,a.2.2),0):=by unfold afI;rw[decide_eq_true h];rfl
theorem af1{a:AU}{t:LB}(h:¬ chkA a=0):afI a t=(auN,chkA a):=by unfold afI;rw[H8 h];rfl
theorem CX{a:AU}(g:WfA a)(l:t.size<9223372036854775808)(m:OkA a->OkA (runI a.2.2 a.1 t.data.toList,a.2.1,a.2.2)):Walk env f11 [auV a,.string t] (auE (afI a t.data.toList).1 (afI a t.data.toList).2):=by by_cases h:chkA a=0;have j:=lq g h;rw[af0 h];have e:=m j;obtain⟨o,n⟩:=si_ls e;have p:=XRd_ok e;unfold leA;obtain⟨s,b,c⟩:=a;dsimp only at*;have k:auV (runI c s t.data.toList,b,c)=.agg ⟨[.int .i64 (runI c s t.data.toList),dat 1 (blV b),dat 1 (roV c)]⟩:=rfl;generalize caS (runI c s t.data.toList,b,c)=C at*;generalize fsS (runI c s t.data.toList,b,c)=F at*;generalize accS (runI c s t.data.toList,b,c)=ac at*;generalize rowS (runI c s t.data.toList,b,c)=rw at*;generalize lsA C F ac rw=lv at*;generalize lsR C F ac rw=lr at*;refine frzR p (d:=2) ?_;refine(Ba (λf i=>Frz i f (auE (0,lv,lr) 0)) _ C (inF F) ac rw _ lv lr s b c t).mpr ?_;rw[cx,bX];refine⟨iy g,Sp.intro (λq=>absurd h (by simpa using q)) (λ_=>?_)⟩;refine⟨⟨rg j,l⟩,⟨.dat (aN _),.dat (aK _),aH _,aC _,ab _,ab _,k⟩,⟨ab _,ab _,aC _,aH _,aH _,aC _,ab _,ab _,aC _,aH _,⟨⟨rfl,rfl,rfl⟩,⟨by rw[ah],by rw[bc],by rw[aL]⟩,rfl,⟨rfl,rfl,rfl⟩,o,n⟩⟩,frzL _ rfl rfl⟩;rw[af1 h];refine frzR XRn_ok (d:=2) ?_;refine(Ba (λf i=>Frz i f (auE auN (chkA a))) _ [] [] [] [] _ [] [] a.1 a.2.1 a.2.2 t).mpr ?_;rw[cx,bX];refine⟨iy g,Sp.intro (λ_=>frzN _ _) (λq=>absurd (by simpa using q) h)⟩
theorem Nv(K:KV)(P:Value->Prop)(ra:Li)(rn:La)(s:Int)(acc:Li)(nx:La)(t:ByteArray):jFr K P ra rn s acc nx t=(WfV (f_ [Vi s,O' acc,W_ nx])/\Sp (! decide (chkA (s,u_ acc,p_ nx)=0)) (K (Ki [f_ [Vi 0,A_,A_],Vi (chkA (s,u_ acc,p_ nx))]) (AH.mk (Kd (Sg C_) (l_ s acc nx)) 2)) ((okV (f_ [Vi s,O' acc,W_ nx])/\(0<=s/\s<j_ (p_ nx))/\ByteArray.size t<9223372036854775808)/\HFs [O' acc,W_ nx,f_ (roV rn),f_ (blV ra)] (PH (Prod.fst (some (P (f_ [Vi (runI (p_ nx) s t.data.toList),O' acc,W_ nx])),f_ [Vi 0,Kl ra.length,g_ 1 0 rn.length],[Z_ ra,O_ rn])))/\K (Ki [f_ [Vi 0,g_ 2 0 ra.length,g_ 3 0 rn.length],Vi 0]) (Q_ (Kd (Sg (O_ rn)) (n_ [Vi 0,g_ 2 0 ra.length,g_ 3 0 rn.length] 25)) (n_ [Vi (runI (p_ nx) s t.data.toList),O' acc,W_ nx] 25) (Sg (Z_ ra)) 4))):=by kernel_rfl
theorem Bb:type_of%(by have h:=@Nv;revert h;delta b_ f_ g_ j_ k_ l_ n_ p_ u_ A_ C_ O_ Q_ W_ Z_ O' Kd Ki Kl;exact id):=@Nv
theorem AX{a:AU}(h:OkA a):leA a=(0,reA a,reR a):=by obtain⟨c,b⟩:=qY h;unfold leA reA reR lsR;rw[c,b]
theorem frzM(A:AH){a:Li}{b:La}(d:A.t.get 2=some (groB a))(c:A.t.get 3=some (groR b)):Frz A (.tuple ⟨[.agg ⟨[.int .i64 0,groS 2 a.length,groS 3 b.length]⟩,.int .i64 0]⟩) (auE (0,a,b) 0):=
 .tuple (.cons (.agg (.cons (.same (HFi _ _)) (.cons (frzG d (by rw[bc]) (oneB _) (aN _)) (.cons (frzG c (by rw[aL]) (oneR _) (aK _)) .nil)))) (.cons (.same (HFi _ _)) .nil))
theorem xS{P:Value->Prop}{b:Li}{a:La}(h:∀ args A p v A',frmR noAr (spLe P b a) args A=some (p,v,A')->PH p->CallAt env 24 args A v A'):(XRr P b a).Ok:=⟨am,aE,ap,.cons Bq (.cons ru_tab (.cons h .nil))⟩
theorem OkA.move{a:AU}(h:OkA a){q:Int}(b:0<=q/\q<a.2.2.length):OkA (q,a.2.1,a.2.2):=⟨h.wf,h.n0,h.n1,h.acc,h.row,b,h.ent⟩
theorem uO{a:AU}(h:OkA a)(t:LB):OkA (runI a.2.2 a.1 t,a.2.1,a.2.2):=h.move (pt h t a.1 h.st)
theorem EV{a:AU}(i:WfA a)(m:t.size<9223372036854775808):Walk env f12 [auV a,.string t] (auE (afI a t.data.toList).1 (afI a t.data.toList).2):=by by_cases h:chkA a=0;have g:=lq i h;have e:=uO g t.data.toList;rw[af0 h,AX e];have n:=xS (le_tab e.toL);obtain⟨s,b,c⟩:=a;dsimp only at*;have l:auV (runI c s t.data.toList,b,c)=.agg ⟨[.int .i64 (runI c s t.data.toList),dat 1 (blV b),dat 1 (roV c)]⟩:=rfl;have j:=g.st;generalize reA (runI c s t.data.toList,b,c)=ra at*;generalize reR (runI c s t.data.toList,b,c)=rn at*;refine frzR n (d:=2) ?_;refine(Bb (λf k=>Frz k f (auE (0,ra,rn) 0)) _ ra rn s b c t).mpr ?_;rw[cx,bX];refine⟨iy i,Sp.intro (λq=>absurd h (by simpa using q)) (λ_=>?_)⟩;exact⟨⟨rg g,j,m⟩,⟨.dat (aN _),.dat (aK _),aH _,aC _,l⟩,frzM _ rfl rfl⟩;rw[af1 h];refine frzR (xS Di) (d:=2) ?_;refine(Bb (λf k=>Frz k f (auE auN (chkA a))) _ [] [] a.1 a.2.1 a.2.2 t).mpr ?_;rw[cx,bX];refine⟨iy i,Sp.intro (λ_=>frzN _ _) (λq=>absurd (by simpa using q) h)⟩
theorem yA{a:AU}(c:WfA a)(d:t.size<9223372036854775808):Walk env f11 [auV a,.string t] (auE (afI a t.data.toList).1 (afI a t.data.toList).2):=CX c d λb=>uO b _
end
end Go.T9
