/- A part of the proof. -/
import Derived.Test.YtegefclhhjbfhaaGreatDoorN7
import Derived.Test.YtegefclhhjbfhaaGreatDoorY3
set_option linter.unusedVariables false
set_option linter.unusedSimpArgs false
set_option maxRecDepth 1000000
set_option maxHeartbeats 1000000
namespace Go.T9
open Go Go.AM Go.MK Go.HK Go.Proofs.Tryz
noncomputable section
variable {rw:La}{C:Le}{F:Lg}{ac:Li}
theorem yY{n:Nat}(l:Lg)(b:l.Nodup)(a:∀ k∈l,k<n):l.length<=n:=cE n l b a
def hLsE(C F:Le)(ac:Li)(rw:La)(acc:Li)(nx:La):AH:=⟨(Nd (Nd (Nd Lf (some (groR rw)) Lf) (some (groI F)) (Nd Lf (some (groR nx)) Lf)) (some (dfO C [groS 1 F.length,groS 2 ac.length,groS 3 rw.length])) (Nd (Nd Lf (some (groB acc)) Lf) (some (groB ac)) Lf)),6⟩
def lsV(n m:Nat):Value:=.tuple ⟨[.agg ⟨[.int .i64 0,groS 4 n,groS 5 m]⟩,.int .i64 0]⟩
def lsE:Value:=.tuple ⟨[.agg ⟨[.int .i64 0,nilS,nilS]⟩,.int .i64 3]⟩
def hLsF(C F:Le)(ac:Li)(rw:La)(o:Le)(al:La)(od:Le)(acc:Li)(nx:La):AH:=⟨(Nd (Nd (Nd (Nd Lf (some (groI od)) Lf) (some (groR rw)) (Nd Lf (some (groB acc)) Lf)) (some (groI F)) (Nd (Nd Lf (some (groI o)) Lf) (some (.cells [groS 9 o.length,groS 10 (roV al).length] 85)) Lf)) (some (dfO C [groS 1 F.length,groS 2 ac.length,groS 3 rw.length])) (Nd (Nd (Nd Lf (some (.cells [.int .i64 0,groS 11 acc.length,groS 12 nx.length] 25)) Lf) (some (.cells [.int .i64 0,groS 11 acc.length,groS 12 nx.length] 25)) (Nd Lf (some (groR nx)) Lf)) (some (groB ac)) (Nd (Nd Lf (some (groR al)) Lf) (some (.map (enI (mkM od)) od.length)) Lf))),13⟩
theorem end_ls(Q:Value->AH->Prop)(C F:Le)(ac:Li)(rw:La)(o:Le)(al:La)(od:Le)(acc:Li)(nx:La):endF env (hDf C F ac rw) [] [] [] Q (.tuple ⟨[.agg ⟨[.int .i64 0,groS 11 acc.length,groS 12 nx.length]⟩,.int .i64 0]⟩) (hLsF C F ac rw o al od acc nx)=(HF (.agg ⟨inV C⟩)/\HF (.agg ⟨inV F⟩)/\HF (.agg ⟨blV ac⟩)/\HF (.agg ⟨roV rw⟩)/\HF (.agg ⟨blV acc⟩)/\HF (.agg ⟨roV nx⟩)/\Q (lsV acc.length nx.length) (hLsE C F ac rw acc nx)):=by kernel_rfl
def hLsX(C F:Le)(ac:Li)(rw:La)(o:Le)(al:La):AH:=⟨(Nd (Nd (Nd (Nd Lf (some (groR al)) Lf) (some (groR rw)) Lf) (some (groI F)) (Nd Lf (some (.cells [groS 6 o.length,groS 7 (roV al).length] 85)) Lf)) (some (dfO C [groS 1 F.length,groS 2 ac.length,groS 3 rw.length])) (Nd (Nd Lf (some (.cells [.int .i64 0,nilS,nilS] 25)) Lf) (some (groB ac)) (Nd Lf (some (groI o)) Lf))),8⟩
theorem Fq(Q:Value->AH->Prop)(C F:Le)(ac:Li)(rw:La)(o:Le)(a:La):endF env (hDf C F ac rw) [] [] [] Q lsE (hLsX C F ac rw o a)=(HF (.agg ⟨inV C⟩)/\HF (.agg ⟨inV F⟩)/\HF (.agg ⟨blV ac⟩)/\HF (.agg ⟨roV rw⟩)/\Q lsE (hDf C F ac rw)):=by kernel_rfl
theorem xS(F:Lg)(ac:Li)(rw:La):(roV (alA (inF F) ac rw)).length=(alkD F ac rw).mem.length:=by rw[aP];unfold alA;rw[GB,Gn]
theorem BC{F:Le}(h:AlOk F ac rw):inV C=inV (List.map deI (inV C))/\(([]:Lh)=[]/\([]:Lh)=[]/\([]:Lh)=[])/\(inV F=inV F/\blV ac=blV ac/\roV rw=roV rw)/\(List.length F=List.length (inV F)/\List.length ac=List.length (blV ac)/\List.length rw=List.length (roV rw))/\AlOk F ac rw:=
 ⟨by rw[cY],⟨rfl,rfl,rfl⟩,⟨rfl,rfl,rfl⟩,⟨by rw[aj],by rw[bp],by rw[aP]⟩,h⟩
theorem ls_err(h:AlOk (inF F) ac rw)(a:300<(alkD F ac rw).mem.length):WalkF env f26 [.pointer (some ⟨0,0,none⟩)] (hDf C (inF F) ac rw) lsE (hDf C (inF F) ac rw):=by have b:=xS F ac rw;refine aq (sL (inF F) ac rw) (d:=1) (ns:=[]) (zs:=[]) (ws:=[]) ((Bf _ C (inF F) ac rw (alO (inF F) ac rw) (alA (inF F) ac rw)).mpr ⟨⟨ab _,ab _,az _,av _,av _,ab _,ab _,ab _,az _,av _,BC h⟩,Sp.intro (λq=>?_) (λq=>absurd (odf q) (by omega))⟩);refine(Fq _ C (inF F) ac rw _ _).mpr ⟨ab _,ab _,az _,av _,rfl,rfl⟩
def lsR(C:Le)(F:Lg)(ac:Li)(rw:La):La:=(lsT C F ac rw).map inF
theorem yu{b:Nat}(a:b<(alkD F ac rw).mem.length):∃ c:b<(alA (inF F) ac rw).length,(alA (inF F) ac rw)[b]=inF (mN (alkD F ac rw).mem b):=by
 have e:alA (inF F) ac rw=(alkD F ac rw).mem.map inF:=by unfold alA;rw[Gn]
 refine⟨by rw[e,GB];exact a,?_⟩;rw[List.getElem_of_eq e,List.getElem_map];unfold mN;rw[gD a]
theorem EO(e:PV rw.length (alkD F ac rw)){b:Nat}(d:b<(alkD F ac rw).mem.length):0<(mN (alkD F ac rw).mem b).length/\∀ f:0<(inF (mN (alkD F ac rw).mem b)).length,(inF (mN (alkD F ac rw).mem b))[0]=(hd (alkD F ac rw) b:Nat):=by
 have a:=e.ne b d;unfold hd;cases c:mN (alkD F ac rw).mem b with
 |nil=>exact absurd c a
 |cons x l=>exact⟨by simp,λ_=>rfl⟩
theorem HF_z(n:Nat):HF (.agg ⟨List.replicate n (Vi 0)⟩):=by rw[iF];exact ab _
theorem Dj(h:LsOk C F ac rw)(hn:(alkD F ac rw).mem.length<=300):WalkF env f26 [.pointer (some ⟨0,0,none⟩)] (hDf C (inF F) ac rw) (lsV (lsA C F ac rw).length (lsR C F ac rw).length) (hLsE C (inF F) ac rw (lsA C F ac rw) (lsR C F ac rw)):=by
 have hl:=xS F ac rw;have hR:=h.al.rk.m;have O:=h.pv.le;obtain⟨I,B,z⟩:=h.of_at h.al.n0;have eS:(λk=>lsSc C F ac rw k)=lsSc C F ac rw:=rfl;have Y:aa (inV (alO (inF F) ac rw)) 0=(oN (alkD F ac rw).of 0:Nat):=by have:=aK B;rw[z]at this;exact this
 have D:nth (inV (alO (inF F) ac rw)) 0=some (Vi (oN (alkD F ac rw).of 0:Nat)):=by rw[bi B,z]
 refine aq (sL (inF F) ac rw) (d:=1) (ns:=[]) (zs:=[]) (ws:=[]) ((Bf _ C (inF F) ac rw (alO (inF F) ac rw) (alA (inF F) ac rw)).mpr ⟨⟨ab _,ab _,az _,av _,av _,ab _,ab _,ab _,az _,av _,BC h.al⟩,Sp.intro (λq=>absurd (odt q) (by omega)) (λq=>?_)⟩);rw[Y];refine⟨⟨by omega,by omega⟩,D,updI [] (oN (alkD F ac rw).of 0:Nat) 0,⟨by omega,by omega⟩,D,ab _,ab _,az _,av _,ab [0],ab [_],ab _,av _,az [],av [],?_⟩;refine LAtZ.stepF (sL (inF F) ac rw) nsLs [.cell 7 2] [] slLs (by kernel_rfl) (λm G A=>∃ (i:Nat) (a:Lg),G=frLs (inF a).length i/\A=hLs C (inF F) ac rw (alO (inF F) ac rw) (alA (inF F) ac rw) (inF a) ((a.take i).map λb=>acN ac (hd (alkD F ac rw) b)) (ba (lsSc C F ac rw) a i)/\EI (lsSc C F ac rw) (λb=>b<(alkD F ac rw).mem.length) 90001 (oN (alkD F ac rw).of 0) a i/\i+m=90001) ?_ (k:=90001) ⟨0,[oN (alkD F ac rw).of 0],rfl,rfl,EI.init I,rfl⟩;rintro m G A ⟨i,a,rfl,rfl,e,Q⟩;have P:a.length<=300:=by have:=yY a e.nd e.inp;omega
 have R:=e.le;have g:=aw a;refine(DG _ _ C (inF F) ac rw (alO (inF F) ac rw) (alA (inF F) ac rw) (inF a) _ _ i).mpr (Sp.intro (λq=>?_) (λq=>?_));have q:=odt q;rw[g]at q;have n:i<a.length:=by omega
 have j:=e.inp _ (GH n);have u:a[i]? =some a[i]:=E' n;obtain⟨v,f⟩:=e.step (λk j=>h.scf_in j) u (by omega);have t:((a.take i).map λb=>acN ac (hd (alkD F ac rw) b)).length=i:=by rw[GB,Hh];omega
 have s:(ba (lsSc C F ac rw) a i).length=i:=by unfold ba;rw[GB,Hh];omega
 have l:i<(inF a).length:=by omega
 obtain⟨y,x⟩:=yu j;obtain⟨S,E⟩:=EO h.pv j;have c:0<(inF (mN (alkD F ac rw).mem a[i])).length:=by rw[aw];exact S
 have w:aa (inV (inF a)) (i:Int)=(a[i]:Nat):=by rw[aK l,eE n]
 have M:nth (inV (inF a)) i=some (Vi (a[i]:Nat)):=by rw[bi l,eE n]
 have o:ah (roV (alA (inF F) ac rw)) ((Int.toNat ((a[i]:Nat):Int)+0:Nat):Int)=inV (inF (mN (alkD F ac rw).mem a[i])):=by have:=dg y;rw[x]at this;exact this
 have L:nth (roV (alA (inF F) ac rw)) (Int.toNat ((Int.toNat ((a[i]:Nat):Int)+0:Nat):Int))=some (Vd 1 (inV (inF (mN (alkD F ac rw).mem a[i])))):=by have:=gG y;rw[x]at this;exact this
 have X:aa (inV (inF (mN (alkD F ac rw).mem a[i]))) 0=(hd (alkD F ac rw) a[i]:Nat):=by have:=aK c;rw[E c]at this;exact this
 have J:nth (inV (inF (mN (alkD F ac rw).mem a[i]))) 0=some (Vi (hd (alkD F ac rw) a[i]:Nat)):=by rw[bi c,E c]
 have l3:=aj (inF (mN (alkD F ac rw).mem a[i]));rw[w,o,X];refine⟨⟨by omega,by omega⟩,M,⟨by omega,by omega⟩,L,⟨by omega,by omega⟩,J,⟨by omega,by omega,by omega,by omega⟩,ab _,ab _,az _,av _,sQ _,ab _,HF_z 256,ab _,av _,az _,av _,?_⟩;have p:=λ(K:KV) (Z:KF)=>zb K Z h a e.nd e.inp a[i] j ((a.take i).map λb=>acN ac (hd (alkD F ac rw) b)) (ba (lsSc C F ac rw) a i) (by rw[t];omega) (by rw[s];omega) i (by omega);have z2:inV z256=inV (List.replicate 256 0):=rfl;refine p _ _ ?_;refine⟨m-1,by omega,i+1,addS a (lsSc C F ac rw a[i]),by rw[aw],?_,v,by omega⟩;rw[f];obtain⟨r,N⟩:=eD (lsSc C F ac rw a[i]) a;have o:((addS a (lsSc C F ac rw a[i])).take (i+1)).map (λb=>acN ac (hd (alkD F ac rw) b))=((a.take i).map λb=>acN ac (hd (alkD F ac rw) b))++[acN ac (hd (alkD F ac rw) a[i])]:=by rw[N,IB (by omega),Hd n,GX];rfl
 rw[o];have q:=odf q;rw[g]at q;obtain⟨w,o⟩:=e.done (by omega) (by omega);subst w;have H:a=lsO C F ac rw:=by rw[o,kp];rfl
 have V:(a.take a.length).map (λb=>acN ac (hd (alkD F ac rw) b))=lsA C F ac rw:=by rw[Hm,H];rfl
 have U:ba (lsSc C F ac rw) a a.length=lsR C F ac rw:=by rw[nW,H];rfl
 rw[V,U];refine(end_ls _ C (inF F) ac rw (alO (inF F) ac rw) (alA (inF F) ac rw) (inF a) (lsA C F ac rw) (lsR C F ac rw)).mpr ?_;exact⟨ab _,ab _,az _,av _,az _,av _,rfl,rfl⟩
theorem EE(C F:Le)(ac:Li)(rw:La)(acc:Li)(nx:La):aS [dfO C [groS 1 F.length,groS 2 ac.length,groS 3 rw.length],groI F,groB ac,groR rw,groB acc,groR nx]=hLsE C F ac rw acc nx:=by kernel_rfl
def LsP(C:Le)(F:Lg)(ac:Li)(rw:La)(Z:Prop)(els l1 l2 l3:Lh):Prop:=els=inV C/\(l1=inV (inF F)/\l2=blV ac/\l3=roV rw)/\LsOk C F ac rw/\Z
def spLs(P:Lh->Lh->Lh->Lh->Prop)(lv:Li)(lr:La):Lh->List AObj->Option (Ll×Value×List AObj)
 | [.pointer (some ⟨B,o,none⟩)],[.arr els [.slice (some ⟨B1,o1,none⟩) n1 k1,.slice (some ⟨B2,o2,none⟩) n2 k2,.slice (some ⟨B3,o3,none⟩) n3 k3] q e,.gro l1 t1 e1,.gro l2 t2 e2,.gro l3 t3 e3]=>
   bif ((Nat.beq B 0&&Nat.beq o 0)&&((Nat.beq B1 1&&Nat.beq o1 0)&&((Nat.beq B2 2&&Nat.beq o2 0)&&(Nat.beq B3 3&&Nat.beq o3 0))))&&(((Nat.beq k1 (unk+3+1)&&Nat.beq k2 (unk+3+1))&&(Nat.beq k3 (unk+3+1)&&Nat.beq q 256))&&((Nat.beq e 51&&Nat.beq e1 3)&&(Nat.beq e2 4&&Nat.beq e3 49)))then
    some (some ((t1=[]/\t2=[]/\t3=[])/\(n1=l1.length/\n2=l2.length/\n3=l3.length)/\P els l1 l2 l3),
     lsV lv.length lr.length,[.arr els [.slice (some ⟨1,0,none⟩) n1 k1,.slice (some ⟨2,0,none⟩) n2 k2,.slice (some ⟨3,0,none⟩) n3 k3] q e,.gro l1 [] e1,.gro l2 [] e2,.gro l3 [] e3,groB lv,groR lr])else none
 |_,_=>none
def spLx(P:Lh->Lh->Lh->Lh->Prop):Lh->List AObj->Option (Ll×Value×List AObj)
 | [.pointer (some ⟨B,o,none⟩)],[.arr els [.slice (some ⟨B1,o1,none⟩) n1 k1,.slice (some ⟨B2,o2,none⟩) n2 k2,.slice (some ⟨B3,o3,none⟩) n3 k3] q e,.gro l1 t1 e1,.gro l2 t2 e2,.gro l3 t3 e3]=>
   bif ((Nat.beq B 0&&Nat.beq o 0)&&((Nat.beq B1 1&&Nat.beq o1 0)&&((Nat.beq B2 2&&Nat.beq o2 0)&&(Nat.beq B3 3&&Nat.beq o3 0))))&&(((Nat.beq k1 (unk+3+1)&&Nat.beq k2 (unk+3+1))&&(Nat.beq k3 (unk+3+1)&&Nat.beq q 256))&&((Nat.beq e 51&&Nat.beq e1 3)&&(Nat.beq e2 4&&Nat.beq e3 49)))then
    some (some ((t1=[]/\t2=[]/\t3=[])/\(n1=l1.length/\n2=l2.length/\n3=l3.length)/\P els l1 l2 l3),
     lsE,[.arr els [.slice (some ⟨1,0,none⟩) n1 k1,.slice (some ⟨2,0,none⟩) n2 k2,.slice (some ⟨3,0,none⟩) n3 k3] q e,.gro l1 [] e1,.gro l2 [] e2,.gro l3 [] e3])else none
 |_,_=>none
theorem AX(C:Le)(F:Lg)(ac:Li)(rw:La):∀ args A p v A',frmR arD (spLs (LsP C F ac rw ((alkD F ac rw).mem.length<=300)) (lsA C F ac rw) (lsR C F ac rw)) args A=some (p,v,A')->PH p->CallAt env 26 args A v A':=aY ak (fn:=f26) rfl λargs c p v a h m=>by unfold spLs at h;split at h;rename_i B o b I u l y H t k x G s j w q e l1 i E l2 g D l3 f z;obtain⟨d,h⟩:=bA h;simp only[GC]at h;obtain⟨rfl,rfl,rfl⟩:=h;simp only[f',GL]at d;obtain⟨⟨⟨rfl,rfl⟩,⟨rfl,rfl⟩,⟨rfl,rfl⟩,rfl,rfl⟩,⟨⟨rfl,rfl⟩,rfl,rfl⟩,⟨rfl,rfl⟩,rfl,rfl⟩:=d;obtain⟨⟨rfl,rfl,rfl⟩,⟨rfl,rfl,rfl⟩,rfl,⟨rfl,rfl,rfl⟩,r,n⟩:(i=[]/\g=[]/\f=[])/\(l=l1.length/\k=l2.length/\j=l3.length)/\(b=inV C/\(l1=inV (inF F)/\l2=blV ac/\l3=roV rw)/\LsOk C F ac rw/\(alkD F ac rw).mem.length<=300):=m;rw[aj,bp,aP];have:=Dj r n;rw[<-gn,<-EE]at this;exact this;cases h
theorem lx_tab(C:Le)(F:Lg)(ac:Li)(rw:La):∀ args A p v A',frmR arD (spLx (LsP C F ac rw (300<(alkD F ac rw).mem.length))) args A=some (p,v,A')->PH p->CallAt env 26 args A v A':=aY ak (fn:=f26) rfl λargs c p v a h m=>by unfold spLx at h;split at h;rename_i B o b I u l y H t k x G s j w q e l1 i E l2 g D l3 f z;obtain⟨d,h⟩:=bA h;simp only[GC]at h;obtain⟨rfl,rfl,rfl⟩:=h;simp only[f',GL]at d;obtain⟨⟨⟨rfl,rfl⟩,⟨rfl,rfl⟩,⟨rfl,rfl⟩,rfl,rfl⟩,⟨⟨rfl,rfl⟩,rfl,rfl⟩,⟨rfl,rfl⟩,rfl,rfl⟩:=d;obtain⟨⟨rfl,rfl,rfl⟩,⟨rfl,rfl,rfl⟩,rfl,⟨rfl,rfl,rfl⟩,r,n⟩:(i=[]/\g=[]/\f=[])/\(l=l1.length/\k=l2.length/\j=l3.length)/\(b=inV C/\(l1=inV (inF F)/\l2=blV ac/\l3=roV rw)/\LsOk C F ac rw/\300<(alkD F ac rw).mem.length):=m;rw[aj,bp,aP];have:=ls_err (C:=C) r.al n;rw[<-gn]at this;exact this;cases h
def spSv(P:Value->Prop)(C F:Le)(ac:Li)(rw:La):Lh->List AObj->Option (Ll×Value×List AObj)
 | [u],[]=>some (some (P u),.pointer (some ⟨0,0,none⟩),dfB C F ac rw)
 |_,_=>none
theorem sv_tab{a:AU}(h:OkA a):∀ args A p v A',frmR noAr (spSv (λu=>u=auV a) (caS a) (inF (fsS a)) (accS a) (rowS a)) args A=some (p,v,A')->PH p->CallAt env 25 args A v A':=aY ak (fn:=f25) rfl λargs d p v c b e=>by unfold spSv at b;split at b;rename_i u;cases b;obtain rfl:u=auV a:=e;exact CJ h;cases b
theorem frzR{X:SX}(j:X.Ok){d:Nat}{fn:Func}{args:Lh}{v:Value}(h:bc X d fn args ⟨.leaf,0⟩ (λa l=>Frz l a v)):Walk X.E fn args v:=by unfold bc at h;split at h;rename_i c i;split at h;rename_i F k;cases b:Nat.ble args.length fn.ntmps;rw[b]at h;exact h.elim;rw[b]at h;refine⟨c,F,i,b,k,(jI j (d:=d) h).mono λm n o q=>?_⟩;obtain⟨g,a,f,e⟩:=gq q;exact⟨g,a,f,e⟩;exact h.elim;exact h.elim
theorem gw:∀ {l:Lh},(∀x∈l,x.cells.toList=[x])->am l=l
 | [],_=>rfl
 |x::l,h=>by rw[aV,h x (by simp),gw λy a=>h y (by simp[a])];rfl
theorem frzG{A:AH}{B n:Nat}{els:Lh}{e:TypeId}(f:A.t.get B=some (.gro els [] e))(d:n=els.length)(a:∀ x∈els,x.cells.toList=[x])(g:∀ x∈els,HF x):Frz A (.slice (some ⟨B,0,none⟩) n (unk+3+1)) (.func (.yield 1) ⟨els⟩ ⟨[]⟩):=by
 have b:∀ x∈els,x.cells.size=1:=λx c=>by have:=HD List.length (a x c);simpa using this
 refine Frz.gsl (lo:=0) (sz:=1) (els0:=els) (c2:=els) f (GG _) rfl rfl (by omega) (by omega) b (by omega) ?_ (gw a) b (by omega);rw[Jc,d,Hm,gw a];exact FrzL.same g
theorem oneB(l:Li):∀ x∈blV l,x.cells.toList=[x]:=λx a=>by obtain⟨b,_,rfl⟩:=GA.1 a;rfl
theorem oneR(l:La):∀ x∈roV l,x.cells.toList=[x]:=λx a=>by obtain⟨b,_,rfl⟩:=GA.1 a;rfl
theorem np(key:Nat->LB):∀ n,∀x∈clsC key n,0<=x
 |0,x,h=>by obtain⟨_,rfl⟩:=Im.1 h;omega
 |n+1,x,h=>by rcases H6 (show x∈List.set _ _ _ from h)with h1|h1;exact np key n x h1;omega
section
variable {S:Type}[DecidableEq S] {st:S->Nat->S}{P:S->Prop}{C:Le}{F:Lg}{s0:S}{ks:List S}{ac:S->Bool}
theorem GD.ls(h:GD st P C F s0 ks)(f:ks.length<=90000)(n:C.length=256)(e:∀ x∈C,0<=x)(p:F.length<=256):LsOk C F (ks.map ac) (ba (λk=>F.map (st k)) ks ks.length):=by have b:=GD.rlen (st:=st) (F:=F) ks;have o:0<ks.length:=Iv h.mem0.1;refine⟨⟨⟨λr a=>?_,λr a x d=>?_,by omega,by rw[aw];omega⟩,by rw[GB,b],by omega⟩,n,λx d=>⟨e x d,?_⟩⟩;unfold ba at a;obtain⟨k,_,rfl⟩:=GA.1 a;rw[cq,GB,aw];unfold ba at a;rw[Hm]at a;obtain⟨k,f,rfl⟩:=GA.1 a;obtain⟨s,m,rfl⟩:=GA.1 d;obtain⟨j,g⟩:=IA.1 f;have:=lk (h.ei.cl j k (GE.1 g).1 g s m);rw[b];omega;obtain⟨c,i,rfl⟩:=IF.1 d;have l:=h.clN c;unfold Go.T9.clN at l;rw[IR (by omega),gD i]at l;have:=e _ (GH i);omega
end
theorem si_lsG{a:AU}(h:OkA a)(ac:PR->Bool):LsOk (caS a) (fsS a) ((reS (fsS a) a).map ac) (rowS a)/\(alkD (fsS a) ((reS (fsS a) a).map ac) (rowS a)).mem.length<=300:=by
 have e:=GD.single h;have r:(caS a).length=256:=jt _ _;have q:∀ x∈caS a,0<=x:=np _ _;have p:(fsS a).length<=256:=dn _ _;have y:(reS (fsS a) a).length<=300:=by have s:=h.n1;have:=cE 300 ((reS (fsS a) a).map λk=>k.1.toNat) ?_ λx n=>?_;simpa using this;refine List.Pairwise.map _ ?_ (JM.1 e.ei.nd);rintro⟨a1,b⟩ ⟨c,d⟩ ⟨g,f,hne⟩ he;have g:=e.ei.inp _ g;have f:=e.ei.inp _ f;obtain⟨⟨m,l⟩,j⟩:=g;obtain⟨⟨v,u⟩,t⟩:=f;dsimp only at*;exact hne (by rw[GC];omega);obtain⟨k,o,rfl⟩:=GA.1 n;obtain⟨⟨m,l⟩,j⟩:=e.ei.inp _ o;omega
 have i:LsOk (caS a) (fsS a) ((reS (fsS a) a).map ac) (rowS a):=e.ls (ac:=ac) (by omega) r q p;refine⟨i,?_⟩;have:=i.pv.le;have w:(rowS a).length=(reS (fsS a) a).length:=GD.rlen _;omega
def auE(a:AU)(e:Int):Value:=.tuple ⟨[auV a,.int .i64 e]⟩
def auN:AU:=(0,[],[])
theorem frzN(A:AH)(e:Int):Frz A (.tuple ⟨[.agg ⟨[.int .i64 0,nilS,nilS]⟩,.int .i64 e]⟩) (auE auN e):=
 .tuple (.cons (.agg (.cons (.same (HFi _ _)) (.cons (.nils 1) (.cons (.nils 1) .nil)))) (.cons (.same (HFi _ _)) .nil))
theorem sn_tab:∀ args A p v A',frmR noAr (spSv (λ_=>False) [] [] [] []) args A=some (p,v,A')->PH p->CallAt env 25 args A v A':=aY ak (fn:=f25) rfl λargs c p v b a d=>by unfold spSv at a;split at a;cases a;exact False.elim d;cases a
theorem AY:∀ args A p v A',frmR arD (spLs (λ_ _ _ _=>False) [] []) args A=some (p,v,A')->PH p->CallAt env 26 args A v A':=aY ak (fn:=f26) rfl λargs b p v a h c=>by unfold spLs at h;split at h;obtain⟨d,h⟩:=bA h;simp only[GC]at h;obtain⟨rfl,rfl,rfl⟩:=h;exact False.elim (And.right (And.right (show _/\_/\False from c)));cases h
end
end Go.T9
namespace Go.T9
open Go Go.AM Go.MK Go.HK
noncomputable section
theorem OkA.move{a:AU}(h:OkA a){q:Int}(b:0<=q/\q<a.2.2.length):OkA (q,a.2.1,a.2.2):=⟨h.wf,h.n0,h.n1,h.acc,h.row,b,h.ent⟩
end
end Go.T9
