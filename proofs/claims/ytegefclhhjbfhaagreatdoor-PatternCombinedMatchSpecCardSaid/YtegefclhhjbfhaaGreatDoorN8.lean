/- A part of the proof. -/
import Derived.Test.YtegefclhhjbfhaaGreatDoorN7
import Derived.Test.YtegefclhhjbfhaaGreatDoorY3
set_option linter.unusedVariables false
set_option linter.unusedSimpArgs false
set_option maxRecDepth 1000000
set_option maxHeartbeats 1000000
namespace Go.T9
open Go Go.AM Go.MK Go.HK Go.Proofs.Tryz
noncomputable section
variable {rw:La}{C:Le}{F:Lg}{ac:Li}
theorem zl{n:Nat}(l:Lg)(b:l.Nodup)(a:∀ k∈l,k<n):l.length<=n:=cB n l b a
def hLsE(C F:Le)(a:Li)(b:La)(d:Li)(c:La):AH:=⟨(Nd (Nd (Nd Lf (some (groR b)) Lf) (some (groI F)) (Nd Lf (some (groR c)) Lf)) (some (dfO C [groS 1 F.length,groS 2 a.length,groS 3 b.length])) (Nd (Nd Lf (some (groB d)) Lf) (some (groB a)) Lf)),6⟩
def lsV(n m:Nat):Value:=.tuple ⟨[.agg ⟨[.int .i64 0,groS 4 n,groS 5 m]⟩,.int .i64 0]⟩
def lsE:Value:=.tuple ⟨[.agg ⟨[.int .i64 0,nilS,nilS]⟩,.int .i64 3]⟩
def hLsF(C F:Le)(e:Li)(d:La)(o:Le)(f:La)(a:Le)(b:Li)(c:La):AH:=⟨(Nd (Nd (Nd (Nd Lf (some (groI a)) Lf) (some (groR d)) (Nd Lf (some (groB b)) Lf)) (some (groI F)) (Nd (Nd Lf (some (groI o)) Lf) (some (.cells [groS 9 o.length,groS 10 (roV f).length] 85)) Lf)) (some (dfO C [groS 1 F.length,groS 2 e.length,groS 3 d.length])) (Nd (Nd (Nd Lf (some (.cells [.int .i64 0,groS 11 b.length,groS 12 c.length] 25)) Lf) (some (.cells [.int .i64 0,groS 11 b.length,groS 12 c.length] 25)) (Nd Lf (some (groR c)) Lf)) (some (groB e)) (Nd (Nd Lf (some (groR f)) Lf) (some (.map (enI (mkM a)) a.length)) Lf))),13⟩
theorem end_ls(Q:Value->AH->Prop)(C F:Le)(d:Li)(c:La)(o:Le)(f:La)(e:Le)(a:Li)(b:La):endF env (hDf C F d c) [] [] [] Q (.tuple ⟨[.agg ⟨[.int .i64 0,groS 11 a.length,groS 12 b.length]⟩,.int .i64 0]⟩) (hLsF C F d c o f e a b)=(HF (.agg ⟨inV C⟩)/\HF (.agg ⟨inV F⟩)/\HF (.agg ⟨blV d⟩)/\HF (.agg ⟨roV c⟩)/\HF (.agg ⟨blV a⟩)/\HF (.agg ⟨roV b⟩)/\Q (lsV a.length b.length) (hLsE C F d c a b)):=by kernel_rfl
def hLsX(C F:Le)(a:Li)(b:La)(o:Le)(c:La):AH:=⟨(Nd (Nd (Nd (Nd Lf (some (groR c)) Lf) (some (groR b)) Lf) (some (groI F)) (Nd Lf (some (.cells [groS 6 o.length,groS 7 (roV c).length] 85)) Lf)) (some (dfO C [groS 1 F.length,groS 2 a.length,groS 3 b.length])) (Nd (Nd Lf (some (.cells [.int .i64 0,nilS,nilS] 25)) Lf) (some (groB a)) (Nd Lf (some (groI o)) Lf))),8⟩
theorem Ge(Q:Value->AH->Prop)(C F:Le)(a:Li)(b:La)(o:Le)(c:La):endF env (hDf C F a b) [] [] [] Q lsE (hLsX C F a b o c)=(HF (.agg ⟨inV C⟩)/\HF (.agg ⟨inV F⟩)/\HF (.agg ⟨blV a⟩)/\HF (.agg ⟨roV b⟩)/\Q lsE (hDf C F a b)):=by kernel_rfl
theorem yd(F:Lg)(ac:Li)(rw:La):(roV (alA (inF F) ac rw)).length=(alkD F ac rw).mem.length:=by grind [aG,alA,Hp,Hd]
theorem BP{F:Le}(h:AlOk F ac rw):inV C=inV (List.map deI (inV C))/\(([]:Lh)=[]/\([]:Lh)=[]/\([]:Lh)=[])/\(inV F=inV F/\blV ac=blV ac/\roV rw=roV rw)/\(List.length F=List.length (inV F)/\List.length ac=List.length (blV ac)/\List.length rw=List.length (roV rw))/\AlOk F ac rw:=
 ⟨by rw[cX],⟨rfl,rfl,rfl⟩,⟨rfl,rfl,rfl⟩,⟨by rw[af],by rw[aT],by rw[aG]⟩,h⟩
theorem ls_err(h:AlOk (inF F) ac rw)(a:300<(alkD F ac rw).mem.length):WalkF env f26 [.pointer (some ⟨0,0,none⟩)] (hDf C (inF F) ac rw) lsE (hDf C (inF F) ac rw):=by have b:=yd F ac rw;refine aC (sU (inF F) ac rw) (d:=1) (ns:=[]) (zs:=[]) (ws:=[]) ((Bq _ C (inF F) ac rw (alO (inF F) ac rw) (alA (inF F) ac rw)).mpr ⟨⟨ab _,ab _,au _,aw _,aw _,ab _,ab _,ab _,au _,aw _,BP h⟩,Sp.intro (λq=>?_) (λq=>absurd (odf q) (by omega))⟩);refine(Ge _ C (inF F) ac rw _ _).mpr ⟨ab _,ab _,au _,aw _,rfl,rfl⟩
def lsR(C:Le)(F:Lg)(a:Li)(b:La):La:=(lsT C F a b).map inF
theorem yE{b:Nat}(a:b<(alkD F ac rw).mem.length):∃ c:b<(alA (inF F) ac rw).length,(alA (inF F) ac rw)[b]=inF (mN (alkD F ac rw).mem b):=by grind [alA,inF,alkD,Hd,Hp,List.getElem_of_eq,gD]
theorem Fu(e:PV rw.length (alkD F ac rw)){b:Nat}(d:b<(alkD F ac rw).mem.length):0<(mN (alkD F ac rw).mem b).length/\∀ f:0<(inF (mN (alkD F ac rw).mem b)).length,(inF (mN (alkD F ac rw).mem b))[0]=(hd (alkD F ac rw) b:Nat):=by
 have a:=e.ne b d;unfold hd;cases c:mN (alkD F ac rw).mem b with
 |nil=>exact absurd c a
 |cons x l=>exact⟨by simp,λ_=>rfl⟩
theorem HF_z(n:Nat):HF (.agg ⟨List.replicate n (Vi 0)⟩):=by rw[dE];exact ab _
theorem DE(h:LsOk C F ac rw)(hn:(alkD F ac rw).mem.length<=300):WalkF env f26 [.pointer (some ⟨0,0,none⟩)] (hDf C (inF F) ac rw) (lsV (lsA C F ac rw).length (lsR C F ac rw).length) (hLsE C (inF F) ac rw (lsA C F ac rw) (lsR C F ac rw)):=by
 have hl:=yd F ac rw;have hR:=h.al.rk.m;have O:=h.pv.le;obtain⟨I,B,z⟩:=h.of_at h.al.n0;have eS:(λk=>lsSc C F ac rw k)=lsSc C F ac rw:=rfl;have Y:aa (inV (alO (inF F) ac rw)) 0=(oN (alkD F ac rw).of 0:Nat):=by have:=aA B;rw[z]at this;exact this
 have D:nth (inV (alO (inF F) ac rw)) 0=some (Vi (oN (alkD F ac rw).of 0:Nat)):=by rw[aL B,z]
 refine aC (sU (inF F) ac rw) (d:=1) (ns:=[]) (zs:=[]) (ws:=[]) ((Bq _ C (inF F) ac rw (alO (inF F) ac rw) (alA (inF F) ac rw)).mpr ⟨⟨ab _,ab _,au _,aw _,aw _,ab _,ab _,ab _,au _,aw _,BP h.al⟩,Sp.intro (λq=>absurd (odt q) (by omega)) (λq=>?_)⟩);rw[Y];refine⟨⟨by omega,by omega⟩,D,updI [] (oN (alkD F ac rw).of 0:Nat) 0,⟨by omega,by omega⟩,D,ab _,ab _,au _,aw _,ab [0],ab [_],ab _,aw _,au [],aw [],?_⟩;refine LAtZ.stepF (sU (inF F) ac rw) nsLs [.cell 7 2] [] slLs (by kernel_rfl) (λm G A=>∃ (i:Nat) (a:Lg),G=frLs (inF a).length i/\A=hLs C (inF F) ac rw (alO (inF F) ac rw) (alA (inF F) ac rw) (inF a) ((a.take i).map λb=>acN ac (hd (alkD F ac rw) b)) (bc (lsSc C F ac rw) a i)/\EI (lsSc C F ac rw) (λb=>b<(alkD F ac rw).mem.length) 90001 (oN (alkD F ac rw).of 0) a i/\i+m=90001) ?_ (k:=90001) ⟨0,[oN (alkD F ac rw).of 0],rfl,rfl,EI.init I,rfl⟩;rintro m G A ⟨i,a,rfl,rfl,e,Q⟩;have P:a.length<=300:=by have:=zl a e.nd e.inp;omega
 have R:=e.le;have g:=ao a;refine(Ef _ _ C (inF F) ac rw (alO (inF F) ac rw) (alA (inF F) ac rw) (inF a) _ _ i).mpr (Sp.intro (λq=>?_) (λq=>?_));have q:=odt q;rw[g]at q;have n:i<a.length:=by omega
 have j:=e.inp _ (Hq n);have u:a[i]? =some a[i]:=Hr n;obtain⟨v,f⟩:=e.step (λk j=>h.scf_in j) u (by omega);have t:((a.take i).map λb=>acN ac (hd (alkD F ac rw) b)).length=i:=by rw[Hp,Ic];omega
 have s:(bc (lsSc C F ac rw) a i).length=i:=by unfold bc;rw[Hp,Ic];omega
 have l:i<(inF a).length:=by omega
 obtain⟨y,x⟩:=yE j;obtain⟨S,E⟩:=Fu h.pv j;have c:0<(inF (mN (alkD F ac rw).mem a[i])).length:=by rw[ao];exact S
 have w:aa (inV (inF a)) (i:Int)=(a[i]:Nat):=by rw[aA l,bD n]
 have M:nth (inV (inF a)) i=some (Vi (a[i]:Nat)):=by rw[aL l,bD n]
 have o:ae (roV (alA (inF F) ac rw)) ((Int.toNat ((a[i]:Nat):Int)+0:Nat):Int)=inV (inF (mN (alkD F ac rw).mem a[i])):=by have:=bL y;rw[x]at this;exact this
 have L:nth (roV (alA (inF F) ac rw)) (Int.toNat ((Int.toNat ((a[i]:Nat):Int)+0:Nat):Int))=some (Vd 1 (inV (inF (mN (alkD F ac rw).mem a[i])))):=by have:=cG y;rw[x]at this;exact this
 have X:aa (inV (inF (mN (alkD F ac rw).mem a[i]))) 0=(hd (alkD F ac rw) a[i]:Nat):=by have:=aA c;rw[E c]at this;exact this
 have J:nth (inV (inF (mN (alkD F ac rw).mem a[i]))) 0=some (Vi (hd (alkD F ac rw) a[i]:Nat)):=by rw[aL c,E c]
 have l3:=af (inF (mN (alkD F ac rw).mem a[i]));rw[w,o,X];refine⟨⟨by omega,by omega⟩,M,⟨by omega,by omega⟩,L,⟨by omega,by omega⟩,J,⟨by omega,by omega,by omega,by omega⟩,ab _,ab _,au _,aw _,sZ _,ab _,HF_z 256,ab _,aw _,au _,aw _,?_⟩;have p:=λ(K:KV) (Z:KF)=>zv K Z h a e.nd e.inp a[i] j ((a.take i).map λb=>acN ac (hd (alkD F ac rw) b)) (bc (lsSc C F ac rw) a i) (by rw[t];omega) (by rw[s];omega) i (by omega);have z2:inV z256=inV (List.replicate 256 0):=rfl;refine p _ _ ?_;refine⟨m-1,by omega,i+1,addS a (lsSc C F ac rw a[i]),by rw[ao],?_,v,by omega⟩;rw[f];obtain⟨r,N⟩:=cN (lsSc C F ac rw a[i]) a;have o:((addS a (lsSc C F ac rw a[i])).take (i+1)).map (λb=>acN ac (hd (alkD F ac rw) b))=((a.take i).map λb=>acN ac (hd (alkD F ac rw) b))++[acN ac (hd (alkD F ac rw) a[i])]:=by rw[N,IM (by omega),HC n,HD];rfl
 rw[o];have q:=odf q;rw[g]at q;obtain⟨w,o⟩:=e.done (by omega) (by omega);subst w;have H:a=lsO C F ac rw:=by rw[o,ku];rfl
 have V:(a.take a.length).map (λb=>acN ac (hd (alkD F ac rw) b))=lsA C F ac rw:=by rw[HX,H];rfl
 have U:bc (lsSc C F ac rw) a a.length=lsR C F ac rw:=by rw[nO,H];rfl
 rw[V,U];refine(end_ls _ C (inF F) ac rw (alO (inF F) ac rw) (alA (inF F) ac rw) (inF a) (lsA C F ac rw) (lsR C F ac rw)).mpr ?_;exact⟨ab _,ab _,au _,aw _,au _,aw _,rfl,rfl⟩
theorem Fj(C F:Le)(a:Li)(b:La)(c:Li)(nx:La):aQ [dfO C [groS 1 F.length,groS 2 a.length,groS 3 b.length],groI F,groB a,groR b,groB c,groR nx]=hLsE C F a b c nx:=by kernel_rfl
def LsP(C:Le)(F:Lg)(b:Li)(a:La)(Z:Prop)(e f c d:Lh):Prop:=e=inV C/\(f=inV (inF F)/\c=blV b/\d=roV a)/\LsOk C F b a/\Z
def spLs(P:Lh->Lh->Lh->Lh->Prop)(lv:Li)(lr:La):Lh->List AObj->Option (Ll×Value×List AObj)
 | [.pointer (some ⟨B,o,none⟩)],[.arr els [.slice (some ⟨B1,o1,none⟩) n1 k1,.slice (some ⟨B2,o2,none⟩) n2 k2,.slice (some ⟨B3,o3,none⟩) n3 k3] q e,.gro l1 t1 e1,.gro l2 t2 e2,.gro l3 t3 e3]=>
   bif ((Nat.beq B 0&&Nat.beq o 0)&&((Nat.beq B1 1&&Nat.beq o1 0)&&((Nat.beq B2 2&&Nat.beq o2 0)&&(Nat.beq B3 3&&Nat.beq o3 0))))&&(((Nat.beq k1 (unk+3+1)&&Nat.beq k2 (unk+3+1))&&(Nat.beq k3 (unk+3+1)&&Nat.beq q 256))&&((Nat.beq e 51&&Nat.beq e1 3)&&(Nat.beq e2 4&&Nat.beq e3 49)))then
    some (some ((t1=[]/\t2=[]/\t3=[])/\(n1=l1.length/\n2=l2.length/\n3=l3.length)/\P els l1 l2 l3),
     lsV lv.length lr.length,[.arr els [.slice (some ⟨1,0,none⟩) n1 k1,.slice (some ⟨2,0,none⟩) n2 k2,.slice (some ⟨3,0,none⟩) n3 k3] q e,.gro l1 [] e1,.gro l2 [] e2,.gro l3 [] e3,groB lv,groR lr])else none
 |_,_=>none
def spLx(P:Lh->Lh->Lh->Lh->Prop):Lh->List AObj->Option (Ll×Value×List AObj)
 | [.pointer (some ⟨B,o,none⟩)],[.arr els [.slice (some ⟨B1,o1,none⟩) n1 k1,.slice (some ⟨B2,o2,none⟩) n2 k2,.slice (some ⟨B3,o3,none⟩) n3 k3] q e,.gro l1 t1 e1,.gro l2 t2 e2,.gro l3 t3 e3]=>
   bif ((Nat.beq B 0&&Nat.beq o 0)&&((Nat.beq B1 1&&Nat.beq o1 0)&&((Nat.beq B2 2&&Nat.beq o2 0)&&(Nat.beq B3 3&&Nat.beq o3 0))))&&(((Nat.beq k1 (unk+3+1)&&Nat.beq k2 (unk+3+1))&&(Nat.beq k3 (unk+3+1)&&Nat.beq q 256))&&((Nat.beq e 51&&Nat.beq e1 3)&&(Nat.beq e2 4&&Nat.beq e3 49)))then
    some (some ((t1=[]/\t2=[]/\t3=[])/\(n1=l1.length/\n2=l2.length/\n3=l3.length)/\P els l1 l2 l3),
     lsE,[.arr els [.slice (some ⟨1,0,none⟩) n1 k1,.slice (some ⟨2,0,none⟩) n2 k2,.slice (some ⟨3,0,none⟩) n3 k3] q e,.gro l1 [] e1,.gro l2 [] e2,.gro l3 [] e3])else none
 |_,_=>none
theorem Bh(C:Le)(F:Lg)(ac:Li)(rw:La):∀ args A p v A',frmR arD (spLs (LsP C F ac rw ((alkD F ac rw).mem.length<=300)) (lsA C F ac rw) (lsR C F ac rw)) args A=some (p,v,A')->PH p->CallAt env 26 args A v A':=aS ai (fn:=f26) rfl λargs c p v a h s=>by unfold spLs at h;split at h;rename_i B o b L y r E K x n D J w m z q e g l I f k H d j G;obtain⟨i,h⟩:=bl h;simp only[Hs]at h;obtain⟨rfl,rfl,rfl⟩:=h;simp only[f',Hy]at i;obtain⟨⟨⟨rfl,rfl⟩,⟨rfl,rfl⟩,⟨rfl,rfl⟩,rfl,rfl⟩,⟨⟨rfl,rfl⟩,rfl,rfl⟩,⟨rfl,rfl⟩,rfl,rfl⟩:=i;obtain⟨⟨rfl,rfl,rfl⟩,⟨rfl,rfl,rfl⟩,rfl,⟨rfl,rfl,rfl⟩,u,t⟩:(l=[]/\k=[]/\j=[])/\(r=g.length/\n=f.length/\m=d.length)/\(b=inV C/\(g=inV (inF F)/\f=blV ac/\d=roV rw)/\LsOk C F ac rw/\(alkD F ac rw).mem.length<=300):=s;rw[af,aT,aG];have:=DE u t;rw[<-iD,<-Fj]at this;exact this;cases h
theorem lx_tab(C:Le)(F:Lg)(ac:Li)(rw:La):∀ args A p v A',frmR arD (spLx (LsP C F ac rw (300<(alkD F ac rw).mem.length))) args A=some (p,v,A')->PH p->CallAt env 26 args A v A':=aS ai (fn:=f26) rfl λargs c p v a h s=>by unfold spLx at h;split at h;rename_i B o b L y r E K x n D J w m z q e g l I f k H d j G;obtain⟨i,h⟩:=bl h;simp only[Hs]at h;obtain⟨rfl,rfl,rfl⟩:=h;simp only[f',Hy]at i;obtain⟨⟨⟨rfl,rfl⟩,⟨rfl,rfl⟩,⟨rfl,rfl⟩,rfl,rfl⟩,⟨⟨rfl,rfl⟩,rfl,rfl⟩,⟨rfl,rfl⟩,rfl,rfl⟩:=i;obtain⟨⟨rfl,rfl,rfl⟩,⟨rfl,rfl,rfl⟩,rfl,⟨rfl,rfl,rfl⟩,u,t⟩:(l=[]/\k=[]/\j=[])/\(r=g.length/\n=f.length/\m=d.length)/\(b=inV C/\(g=inV (inF F)/\f=blV ac/\d=roV rw)/\LsOk C F ac rw/\300<(alkD F ac rw).mem.length):=s;rw[af,aT,aG];have:=ls_err (C:=C) u.al t;rw[<-iD]at this;exact this;cases h
def spSv(P:Value->Prop)(C F:Le)(ac:Li)(rw:La):Lh->List AObj->Option (Ll×Value×List AObj)
 | [u],[]=>some (some (P u),.pointer (some ⟨0,0,none⟩),dfB C F ac rw)
 |_,_=>none
theorem sv_tab{a:AU}(h:OkA a):∀ args A p v A',frmR noAr (spSv (λu=>u=auV a) (caS a) (inF (fsS a)) (accS a) (rowS a)) args A=some (p,v,A')->PH p->CallAt env 25 args A v A':=aS ai (fn:=f25) rfl λargs d p v c b e=>by unfold spSv at b;split at b;rename_i u;cases b;obtain rfl:u=auV a:=e;exact CY h;cases b
theorem frzR{X:SX}(j:X.Ok){d:Nat}{fn:Func}{args:Lh}{v:Value}(h:aN X d fn args ⟨.leaf,0⟩ (λa l=>Frz l a v)):Walk X.E fn args v:=by unfold aN at h;split at h;rename_i c i;split at h;rename_i F k;cases b:Nat.ble args.length fn.ntmps;rw[b]at h;exact h.elim;rw[b]at h;refine⟨c,F,i,b,k,(ik j (d:=d) h).mono λm n o q=>?_⟩;obtain⟨g,a,f,e⟩:=eG q;exact⟨g,a,f,e⟩;exact h.elim;exact h.elim
theorem gy:∀ {l:Lh},(∀x∈l,x.cells.toList=[x])->ap l=l
 | [],_=>rfl
 |x::l,h=>by rw[aU,h x (by simp),gy λy a=>h y (by simp[a])];rfl
theorem frzG{A:AH}{B n:Nat}{els:Lh}{e:TypeId}(f:A.t.get B=some (.gro els [] e))(d:n=els.length)(a:∀ x∈els,x.cells.toList=[x])(g:∀ x∈els,HF x):Frz A (.slice (some ⟨B,0,none⟩) n (unk+3+1)) (.func (.yield 1) ⟨els⟩ ⟨[]⟩):=by
 have b:∀ x∈els,x.cells.size=1:=λx c=>by have:=Il List.length (a x c);simpa using this
 refine Frz.gsl (lo:=0) (sz:=1) (els0:=els) (c2:=els) f (Hu _) rfl rfl (by omega) (by omega) b (by omega) ?_ (gy a) b (by omega);rw[JH,d,HX,gy a];exact FrzL.same g
theorem oneB(l:Li):∀ x∈blV l,x.cells.toList=[x]:=λx a=>by obtain⟨b,_,rfl⟩:=Hn.1 a;rfl
theorem oneR(l:La):∀ x∈roV l,x.cells.toList=[x]:=λx a=>by obtain⟨b,_,rfl⟩:=Hn.1 a;rfl
theorem m9(key:Nat->LB):∀ n,∀x∈clsC key n,0<=x
 |0,x,h=>by obtain⟨_,rfl⟩:=Ja.1 h;omega
 |n+1,x,h=>by rcases Iz (show x∈List.set _ _ _ from h)with h1|h1;exact m9 key n x h1;omega
section
variable {S:Type}[DecidableEq S] {st:S->Nat->S}{P:S->Prop}{C:Le}{F:Lg}{s0:S}{ks:List S}{ac:S->Bool}
theorem GD.ls(h:GD st P C F s0 ks)(e:ks.length<=90000)(l:C.length=256)(i:∀ x∈C,0<=x)(o:F.length<=256):LsOk C F (ks.map ac) (bc (λk=>F.map (st k)) ks ks.length):=by have b:=GD.rlen (st:=st) (F:=F) ks;have m:0<ks.length:=I7 h.mem0.1;refine⟨⟨⟨λr a=>?_,λr a x d=>?_,by omega,by rw[ao];omega⟩,by rw[Hp,b],by omega⟩,l,λx d=>⟨i x d,?_⟩⟩;unfold bc at a;obtain⟨k,_,rfl⟩:=Hn.1 a;rw[b6,Hp,ao];unfold bc at a;rw[HX]at a;obtain⟨k,e,rfl⟩:=Hn.1 a;obtain⟨s,g,rfl⟩:=Hn.1 d;obtain⟨j,f⟩:=IU.1 e;have:=ot (h.ei.cl j k (Hx.1 f).1 f s g);rw[b];omega;obtain⟨c,n,rfl⟩:=IA.1 d;have p:=h.clN c;grind [Go.T9.clN,Jk,gD,Hq]
end
theorem si_lsG{a:AU}(h:OkA a)(ac:PR->Bool):LsOk (caS a) (fsS a) ((reS (fsS a) a).map ac) (rowS a)/\(alkD (fsS a) ((reS (fsS a) a).map ac) (rowS a)).mem.length<=300:=by
 have e:=GD.single h;have r:(caS a).length=256:=jr _ _;have q:∀ x∈caS a,0<=x:=m9 _ _;have p:(fsS a).length<=256:=eK _ _;have y:(reS (fsS a) a).length<=300:=by have s:=h.n1;have:=cB 300 ((reS (fsS a) a).map λk=>k.1.toNat) ?_ λx n=>?_;simpa using this;refine Km _ ?_ (Ka.1 e.ei.nd);rintro⟨a1,b⟩ ⟨c,d⟩ ⟨g,f,hne⟩ he;have g:=e.ei.inp _ g;have f:=e.ei.inp _ f;obtain⟨⟨m,l⟩,j⟩:=g;obtain⟨⟨v,u⟩,t⟩:=f;grind;obtain⟨k,o,rfl⟩:=Hn.1 n;obtain⟨⟨m,l⟩,j⟩:=e.ei.inp _ o;omega
 have i:LsOk (caS a) (fsS a) ((reS (fsS a) a).map ac) (rowS a):=e.ls (ac:=ac) (by omega) r q p;refine⟨i,?_⟩;have:=i.pv.le;have w:(rowS a).length=(reS (fsS a) a).length:=GD.rlen _;omega
def auE(a:AU)(e:Int):Value:=.tuple ⟨[auV a,.int .i64 e]⟩
def auN:AU:=(0,[],[])
theorem frzN(A:AH)(e:Int):Frz A (.tuple ⟨[.agg ⟨[.int .i64 0,nilS,nilS]⟩,.int .i64 e]⟩) (auE auN e):=
 .tuple (.cons (.agg (.cons (.same (HFi _ _)) (.cons (.nils 1) (.cons (.nils 1) .nil)))) (.cons (.same (HFi _ _)) .nil))
theorem sn_tab:∀ args A p v A',frmR noAr (spSv (λ_=>False) [] [] [] []) args A=some (p,v,A')->PH p->CallAt env 25 args A v A':=aS ai (fn:=f25) rfl λargs c p v b a d=>by unfold spSv at a;split at a;cases a;exact False.elim d;cases a
theorem Bi:∀ args A p v A',frmR arD (spLs (λ_ _ _ _=>False) [] []) args A=some (p,v,A')->PH p->CallAt env 26 args A v A':=aS ai (fn:=f26) rfl λargs b p v a h c=>by unfold spLs at h;split at h;obtain⟨d,h⟩:=bl h;simp only[Hs]at h;obtain⟨rfl,rfl,rfl⟩:=h;exact False.elim (And.right (And.right (show _/\_/\False from c)));cases h
end
end Go.T9
namespace Go.T9
open Go Go.AM Go.MK Go.HK
noncomputable section
theorem OkA.move{a:AU}(h:OkA a){q:Int}(b:0<=q/\q<a.2.2.length):OkA (q,a.2.1,a.2.2):=⟨h.wf,h.n0,h.n1,h.acc,h.row,b,h.ent⟩
end
end Go.T9
