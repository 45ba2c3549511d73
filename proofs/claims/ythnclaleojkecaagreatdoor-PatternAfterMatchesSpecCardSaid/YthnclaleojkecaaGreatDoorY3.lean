/- A part of the proof. -/
import Derived.Test.YthnclaleojkecaaGreatDoorY2
import Derived.Test.YthnclaleojkecaaGreatDoorX2
import Derived.Test.YthnclaleojkecaaGreatDoorX3
import Derived.Test.YthnclaleojkecaaGreatDoorX4
import Derived.Test.YthnclaleojkecaaGreatDoorX1
import Derived.Test.YthnclaleojkecaaGreatDoorY1
set_option linter.unusedVariables false
set_option linter.unusedSimpArgs false
set_option maxRecDepth 1000000
set_option maxHeartbeats 400000
namespace Go.T9
open Go Go.AM Go.MK Go.HK
noncomputable section
variable {O:AU}{P:Int->Lh->Lh->Prop}{L q:Le}{i n:Nat}
structure OdOk (O:AU) (od:Lg) (n:Nat):Prop where
 ok:OkL O
 hn:O.2.2.length=n
 nd:od.Nodup
 lt:∀ k∈od,k<n
 cl:∀ k∈od,∀b,b<256->dA O k b∈od
theorem OdOk.le{od:Lg}(h:OdOk O od n):od.length<=n/\n<=90000:=by have:=cF n od h.nd h.lt;have b:=h.ok.n1;have a:=h.hn;exact⟨this,by omega⟩
def posL(n:Nat)(od:Lg)(i:Nat):Le:=(List.range n).map λk=>(((if k∈od.take i then idN od k else 0:Nat)):Int)
theorem cE(n:Nat)(od:Lg)(i:Nat):(posL n od i).length=n:=by unfold posL;rw[Gu,Hg]
theorem pA{od:Lg}{k:Nat}(h:k<n):∃ a:k<(posL n od i).length,(posL n od i)[k]=((if k∈od.take i then idN od k else 0:Nat):Int):=by refine⟨by rw[cE];exact h,?_⟩;unfold posL;rw[II,Jc]
theorem posL_0(n:Nat)(od:Lg):posL n od 0=List.replicate n 0:=by unfold posL;rw[JI];refine⟨by simp,λx a=>?_⟩;obtain⟨k,_,rfl⟩:=Gv.1 a;simp
theorem yy{od:Lg}(l:od.Nodup)(j:∀ k∈od,k<n)(d:i<od.length):(posL n od i).set od[i] (i:Nat)=posL n od (i+1):=by
 have g:=j _ (Gy d);refine Ji (by rw[GF,cE,cE]) λk f p=>?_;rw[GF,cE]at f;obtain⟨s,o⟩:=pA (n:=n) (od:=od) (i:=i) f;obtain⟨r,m⟩:=pA (n:=n) (od:=od) (i:=i+1) f;have b:k∈od.take (i+1)↔k∈od.take i∨k=od[i]:=by rw[GU d,GS,GZ]
 have c:=mD l i d;rw[m,List.getElem_set];by_cases e:od[i]=k;rw[E' e,E' (b.2 (.inr e.symm)),<-e,c];rw[C' e,o];by_cases a:k∈od.take i;rw[E' a,E' (b.2 (.inl a))];rw[C' a,C' (λh=>(b.1 h).elim a (λh=>e h.symm))]
theorem yY{K:KV}(s:(XNu P q).Ok){cl:Le}{od:Lg}(h:OdOk O od n)
 (f:LAtZ (XNu P q) 1 nNu (hNu0 L cl) bNu pN5 (cz K) (frN5 (inF od).length n 0) (hN5 L cl O.1 O.2.1 O.2.2 (inF od) (posL n od od.length) [] [])):
 LAtZ (XNu P q) 1 nNu (hNu0 L cl) bNu pN4 (cz K) (frN4 (inF od).length n 0) (hN4 L cl O.1 O.2.1 O.2.2 (inF od) (List.replicate n 0)):=by
 obtain⟨p,o⟩:=h.le;have a:=ao od;refine LAtZ.stepF s [] [] [] slN4 (by kernel_rfl) (λm G A=>∃ i:Nat,G=frN4 (inF od).length (posL n od i).length i/\A=hN4 L cl O.1 O.2.1 O.2.2 (inF od) (posL n od i)/\i+m=od.length) ?_ (k:=od.length) ⟨0,by rw[cE],by rw[posL_0],by omega⟩;rintro m G A ⟨i,rfl,rfl,r⟩;have e:=cE n od i;refine(jN4_nf _ _ P q L cl O.1 O.2.1 O.2.2 (inF od) (posL n od i) i).mpr (Sp.intro (λc=>?_) (λc=>?_));have c:=odt c;rw[a]at c;have d:i<od.length:=by omega
 have b:i<(inF od).length:=by omega
 have t:aa (inV (inF od)) (i:Int)=(od[i]:Nat):=by rw[aq b,bF d]
 have g:nth (inV (inF od)) i=some (Vi (od[i]:Nat)):=by rw[aP b,bF d]
 have l:=h.lt _ (Gy d);have j:=yy h.nd h.lt d;generalize od[i]=x at*;rw[t];simp only[Gs,GP];rw[ce,j,aA (x:=(i:Int)+1) (by omega) (by omega)];refine⟨⟨by omega,by omega⟩,g,⟨by omega,by omega⟩,by rw[ah];omega,ab _,ab _,ab _,ab _,aC _,aH _,m-1,by omega,i+1,?_,rfl,by omega⟩;rw[cE,cE];rfl;have c:=odf c;rw[a]at c;obtain rfl:i=od.length:=by omega
 refine⟨ab _,ab _,ab _,ab _,aC _,aH _,aC [],aH [],?_⟩;rw[e];exact f
theorem OdOk.pos{od:Lg}(h:OdOk O od n){k:Nat}(a:k∈od):∃ b:k<(posL n od od.length).length,(posL n od od.length)[k]=(idN od k:Nat):=by obtain⟨b,c⟩:=pA (n:=n) (od:=od) (i:=od.length) (h.lt _ a);refine⟨b,?_⟩;rw[c,Hh,E' a]
theorem yW{K:KV}{again2:KF}(V:(XNu P q).Ok){cl:Le}{od:Lg}(h:OdOk O od n)(w:i<od.length){g:Li}{e:La}(ha:g.length<=90000)(hn:e.length<=90000)
 (a:again2 (frN5 (inF od).length n (i+1)) (hN5 L cl O.1 O.2.1 O.2.2 (inF od) (posL n od od.length) (g++[acN O.2.1 od[i]]) (e++[inF ((scR (dA O) od[i]).map (idN od))]))):
 LAtZ (XNu P q) 1 nNu (hNu0 L cl) (ak (subC pN5 bNu)) pN6 (kN5 K again2 P q L cl) (frN6 (inF od).length n i 256 0) (hN6 L cl O.1 O.2.1 O.2.2 (inF od) (posL n od od.length) g e (List.replicate 256 0)):=by
 obtain⟨Q,N⟩:=h.le;have M:=ao od;have p:=cE n od od.length;have r:i<(inF od).length:=by omega
 have f:=Gy w;have E:aa (inV (inF od)) (i:Int)=(od[i]:Nat):=by rw[aq r,bF w]
 have D:nth (inV (inF od)) i=some (Vi (od[i]:Nat)):=by rw[aP r,bF w]
 have y:=h.cl _ f;have s:od[i]<O.2.2.length:=by rw[h.hn];exact h.lt _ f
 have S:=h.ok.acc;have R:=h.hn;have u:(scR (dA O) od[i]).map (idN od)=(List.range 256).map λc=>idN od (dA O od[i] c):=by unfold scR;rw[Hp];rfl
 rw[u]at a;generalize od[i]=x at*;have o:=fun {k:Nat}(hk:k∈od)=>h.pos hk;generalize posL n od od.length=nb at*;refine LAtZ.stepF V [] [] [] slN6 (by kernel_rfl) (λm G A=>∃ b:Nat,G=frN6 (inF od).length nb.length i (rowF (λc=>idN od (dA O x c)) b).length b/\A=hN6 L cl O.1 O.2.1 O.2.2 (inF od) nb g e (rowF (λc=>idN od (dA O x c)) b)/\b+m=256) ?_ (k:=256) ⟨0,by rw[p];rfl,rfl,rfl⟩;rintro m G A ⟨b,rfl,rfl,U⟩;have l:=iV (λc=>idN od (dA O x c)) (b:=b) (by omega);refine(jN6_nf _ _ _ P q L cl O.1 O.2.1 O.2.2 (inF od) nb g e i (rowF (λc=>idN od (dA O x c)) b) b).mpr (Sp.intro (λc=>?_) (λc=>?_));have c:=odt c;have z:b<256:=by omega
 obtain⟨s1,C,s3⟩:=h.ok.at' s z;have v:=y b z;obtain⟨H,F⟩:=o v;have B:ae (roV O.2.2) (x:Int)=inV O.2.2[x]:=bM s;have t:nth (roV O.2.2) x=some (Vd 1 (inV O.2.2[x])):=cK s;have Z:aa (inV O.2.2[x]) (b:Int)=(dA O x b:Nat):=by rw[aq s1,C]
 have J:nth (inV O.2.2[x]) b=some (Vi (dA O x b:Nat)):=by rw[aP s1,C]
 have Y:aa (inV nb) ((dA O x b:Nat):Int)=(idN od (dA O x b):Nat):=by rw[aq H,F]
 have I:nth (inV nb) (dA O x b)=some (Vi (idN od (dA O x b):Nat)):=by rw[aP H,F]
 have l1:(inV O.2.2[x]).length=O.2.2[x].length:=ah _;have j:=qU (λc=>idN od (dA O x c)) z;rw[E];simp only[Gs,GP];rw[B,Z,l1];simp only[Gs,GP];rw[Y,ce,j,l,aA (x:=(b:Int)+1) (by omega) (by omega)];refine⟨⟨by omega,by omega⟩,D,⟨by omega,by omega⟩,t,⟨by omega,by omega⟩,J,⟨by omega,by omega⟩,I,⟨by omega,by omega⟩,by rw[ah,l];omega,ab _,ab _,ab _,ab _,ab _,aC _,aH _,aC _,aH _,m-1,by omega,b+1,?_,rfl,by omega⟩;rw[iV _ (by omega)];rfl;have c:=odf c;obtain rfl:b=256:=by omega
 have d:x<O.2.1.length:=by omega
 have B:aG (blV O.2.1) (x:Int)=acN O.2.1 x:=by rw[bv d];unfold acN;rw[gD d]
 have t:nth (blV O.2.1) x=some (.bool (acN O.2.1 x)):=by rw[di d];unfold acN;rw[gD d]
 rw[E];simp only[Gs,GP];rw[B,nk,qV,aA (x:=(i:Int)+1) (by omega) (by omega)];refine⟨⟨rfl,by rw[aL],by omega,by omega⟩,⟨by omega,by omega⟩,D,⟨by omega,by omega⟩,t,⟨rfl,by rw[bc],by omega,by omega⟩,by rw[ah],ab _,ab _,ab _,ab _,aC _,aH _,aC _,?_,?_⟩;exact(eQ e _)▸aH _;have X:roV e++[Vd 1 (inV (inF ((List.range 256).map λc=>idN od (dA O x c))))]=roV (e++[inF ((List.range 256).map λc=>idN od (dA O x c))]):=eQ _ _;rw[X,p];unfold hN5 at a;rw[Gr,Gr]at a;exact a
def nuA(O:AU)(od:Lg):Li:=od.map (acN O.2.1)
def nuR(O:AU)(od:Lg):La:=od.map λk=>inF ((scR (dA O) k).map (idN od))
def nuV(n m:Nat):Value:=.agg ⟨[.int .i64 0,groS 2 n,groS 3 m]⟩
def hNuE(L cl:Le)(ra:Li)(rn:La):AH:=⟨(Nd (Nd (Nd Lf (some (groR rn)) Lf) (some (groI cl)) Lf) (some (groI L)) (Nd Lf (some (groB ra)) Lf)),4⟩
def hNuF(L cl:Le)(c0:Int)(oa:Li)(on:La)(od nb:Le)(ra:Li)(rn:La):AH:=⟨(Nd (Nd (Nd (Nd Lf (some (groB oa)) Lf) (some (.cells [.int .i64 c0,groS 7 oa.length,groS 8 on.length] 25)) Lf) (some (groI cl)) (Nd (Nd Lf (some (groB ra)) Lf) (some (groI nb)) Lf)) (some (groI L)) (Nd (Nd (Nd Lf (some (groR on)) Lf) (some (groI od)) Lf) (some (.cells [.int .i64 0,groS 9 ra.length,groS 10 rn.length] 25)) (Nd (Nd Lf (some (groR rn)) Lf) (some (.cells [.int .i64 0,groS 9 ra.length,groS 10 rn.length] 25)) Lf))),11⟩
theorem end_nu(Q:Value->AH->Prop)(L cl:Le)(c0:Int)(d:Li)(c:La)(od nb:Le)(b:Li)(a:La):endF env (hNu0 L cl) [] [] [] Q (.agg ⟨[.int .i64 0,groS 9 b.length,groS 10 a.length]⟩) (hNuF L cl c0 d c od nb b a)=(HF (.agg ⟨inV L⟩)/\HF (.agg ⟨inV cl⟩)/\HF (.agg ⟨blV b⟩)/\HF (.agg ⟨roV a⟩)/\Q (nuV b.length a.length) (hNuE L cl b a)):=by kernel_rfl
theorem yX{Q:Value->AH->Prop}(l:(XNu P q).Ok){cl:Le}{od:Lg}(h:OdOk O od n)(s:Q (nuV (nuA O od).length (nuR O od).length) (hNuE L cl (nuA O od) (nuR O od))):
 LAtZ (XNu P q) 1 nNu (hNu0 L cl) bNu pN5 (cz (endF env (hNu0 L cl) [] [] [] Q)) (frN5 (inF od).length n 0) (hN5 L cl O.1 O.2.1 O.2.2 (inF od) (posL n od od.length) [] []):=by
 obtain⟨p,o⟩:=h.le;have a:=ao od;have b:=cE n od od.length;refine LAtZ.stepF l nsN5 [.cell 18 2] [] slN5 (by kernel_rfl) (λm G A=>∃ i:Nat,G=frN5 (inF od).length n i/\A=hN5 L cl O.1 O.2.1 O.2.2 (inF od) (posL n od od.length) ((od.take i).map (acN O.2.1)) ((od.take i).map λk=>inF ((scR (dA O) k).map (idN od)))/\i+m=od.length) ?_ (k:=od.length) ⟨0,rfl,rfl,by omega⟩;rintro m G A ⟨i,rfl,rfl,r⟩;have f:((od.take i).map (acN O.2.1)).length=i:=by rw[Gu,Hd];omega
 have e:((od.take i).map λk=>inF ((scR (dA O) k).map (idN od))).length=i:=by rw[Gu,Hd];omega
 have d:=jN5_nf (endF env (hNu0 L cl) [] [] [] Q) (λv w=>∃ g,g<m/\∃ i:Nat,v=frN5 (inF od).length n i/\w=hN5 L cl O.1 O.2.1 O.2.2 (inF od) (posL n od od.length) ((od.take i).map (acN O.2.1)) ((od.take i).map λk=>inF ((scR (dA O) k).map (idN od)))/\i+g=od.length) P q L cl O.1 O.2.1 O.2.2 (inF od) (posL n od od.length) ((od.take i).map (acN O.2.1)) ((od.take i).map λk=>inF ((scR (dA O) k).map (idN od))) i;unfold jN5 at d;rw[b]at d;refine d.mpr (Sp.intro (λc=>?_) (λc=>?_));have c:=odt c;rw[a]at c;have j:i<od.length:=by omega
 refine⟨⟨by omega,by omega,by omega,by omega⟩,ab _,ab _,ab _,ab _,x4,aC _,aH _,aC _,aH _,?_⟩;refine yW l h j (by rw[f];omega) (by rw[e];omega) ?_;refine⟨m-1,by omega,i+1,rfl,?_,by omega⟩;rw[GU j,GM,GM];rfl;have c:=odf c;rw[a]at c;obtain rfl:i=od.length:=by omega
 have u:(od.take od.length).map (acN O.2.1)=nuA O od:=by rw[Hh];rfl
 have t:((od.take od.length).map λk=>inF ((scR (dA O) k).map (idN od)))=nuR O od:=by rw[Hh];rfl
 rw[u,t];refine(end_nu Q L cl O.1 O.2.1 O.2.2 (inF od) (posL n od od.length) (nuA O od) (nuR O od)).mpr ?_;exact⟨ab _,ab _,aC _,aH _,s⟩
end
end Go.T9
namespace Go.T9
open Go Go.AM Go.MK Go.HK Go.Proofs.Tryz
noncomputable section
variable {l:Lg}{N i n:Nat}{f:Nat->Nat}
theorem HF_zM(n:Nat):HF (.agg ⟨List.replicate n (Vi 0)⟩):=by rw[e7];exact ab _
def odL(O:AU):Lg:=rfL (dA O) O.1.toNat
theorem NmOk.od{a:AU}{cl:Le}(h:NmOk a l cl n f):OdOk (clA a l n f) (odL (clA a l n f)) n:=by have d:=RAL.of h.okL;have e:=(xo a l n f).1;refine⟨h.okL,e,d.ei.nd,λk c=>?_,λk c b _=>d.cl k c b⟩;have:=d.ei.inp k c;omega
theorem C4{a:AU}{cl:Le}(h:NmOk a l cl n f):WalkF env f44 [auV a,groS 0 (inF l).length,groS 1 cl.length,.int .i64 (n:Int)] (hNu0 (inF l) cl) (nuV (nuA (clA a l n f) (odL (clA a l n f))).length (nuR (clA a l n f) (odL (clA a l n f))).length) (hNuE (inF l) cl (nuA (clA a l n f) (odL (clA a l n f))) (nuR (clA a l n f) (odL (clA a l n f)))):=by have g:=XNu_ok h.okL;have e:=h.od;have j:(clA a l n f).1=((f a.1.toNat:Nat):Int):=rfl;have m:=h.n1;have o:=h.l1;have k:=λ(K:KV) b=>y3 (K:=K) g h b;have s:=λ(K:KV) b=>y0 (K:=K) g h (c0:=(clA a l n f).1) ⟨rfl,rfl,rfl⟩ b;have r:=λ(K:KV) b=>yY (K:=K) (L:=inF l) (cl:=cl) g e b;have q:=λ(Q:Value->AH->Prop) (p:Q (nuV (nuA (clA a l n f) (odL (clA a l n f))).length (nuR (clA a l n f) (odL (clA a l n f))).length) (hNuE (inF l) cl (nuA (clA a l n f) (odL (clA a l n f))) (nuR (clA a l n f) (odL (clA a l n f)))))=>yX (Q:=Q) (L:=inF l) (cl:=cl) g e p;rw[<-j]at k;unfold odL at*;generalize rfL (dA (clA a l n f)) (clA a l n f).1.toNat=od at*;generalize clA a l n f=O at*;generalize nuA O od=ra at*;generalize nuR O od=rn at*;refine aJ g (d:=1) (ns:=[]) (zs:=[]) (ws:=[]) ((jNu_nf _ _ (inF od) (inF l) cl n a.1 a.2.1 a.2.2).mpr ?_);rw[Gs,ao,aA (x:=(l.length:Int)-1) (by omega) (by omega)];refine⟨⟨by omega,by omega,by omega,by omega⟩,ab _,ab _,.dat (aN _),.dat (aK _),HF_zM n,?_⟩;have c:=k _ (s _ (r _ (q (λv1 t=>v1=nuV ra.length rn.length/\t=hNuE (inF l) cl ra rn) ⟨rfl,rfl⟩)));rw[F9,ao,Hi]at c;rw[e7];unfold hN1 groI at c;exact c
def spNu(P:Value->Lh->Lh->Int->Prop)(ra:Li)(rn:La):Lh->List AObj->Option (Ll×Value×List AObj)
 | [u,.slice (some ⟨B1,o1,none⟩) n1 k1,.slice (some ⟨B2,o2,none⟩) n2 k2,.int .i64 n],[.gro l1 t1 e1,.gro l2 t2 e2]=>
   bif ((Nat.beq B1 0&&Nat.beq o1 0)&&(Nat.beq B2 1&&Nat.beq o2 0))&&((Nat.beq k1 (unk+3+1)&&Nat.beq k2 (unk+3+1))&&(Nat.beq e1 3&&Nat.beq e2 3))then
    some (some ((t1=[]/\t2=[])/\(n1=l1.length/\n2=l2.length)/\P u l1 l2 n),nuV ra.length rn.length,[.gro l1 [] e1,.gro l2 [] e2,groB ra,groR rn])else none
 |_,_=>none
theorem zA(L cl:Le):aW [groI L,groI cl]=hNu0 L cl:=by kernel_rfl
theorem zy(L cl:Le)(b:Li)(a:La):aW [groI L,groI cl,groB b,groR a]=hNuE L cl b a:=by kernel_rfl
theorem nu_tab{a:AU}:∀ args A p v A',frmR noAr (spNu (λu l1 l2 m=>∃ cl,NmOk a l cl n f/\u=auV a/\l1=inV (inF l)/\l2=inV cl/\m=(n:Int)) (nuA (clA a l n f) (odL (clA a l n f))) (nuR (clA a l n f) (odL (clA a l n f)))) args A=some (p,v,A')->PH p->CallAt env 44 args A v A':=be am (fn:=f44) rfl λargs d p v c b q=>by unfold spNu at b;split at b;rename_i u B s o w z r k t m l1 j y l2 g x;obtain⟨e,b⟩:=bw b;simp only[Gx]at b;obtain⟨rfl,rfl,rfl⟩:=b;simp only[f',GG]at e;obtain⟨⟨⟨rfl,rfl⟩,rfl,rfl⟩,⟨rfl,rfl⟩,rfl,rfl⟩:=e;obtain⟨⟨rfl,rfl⟩,⟨rfl,rfl⟩,cl,h,rfl,rfl,rfl,rfl⟩:(j=[]/\g=[])/\(o=l1.length/\k=l2.length)/\(∃cl,NmOk a l cl n f/\u=auV a/\l1=inV (inF l)/\l2=inV cl/\m=(n:Int)):=q;rw[ah,ah];have:=C4 h;rw[<-zA,<-zy]at this;exact this;cases b
theorem nu_rf{a:AU}{cl:Le}(h:NmOk a (rfL (dA a) a.1.toNat) cl n (rfC (dA a) (acN a.2.1) a.1.toNat)):
 nuA (clA a (rfL (dA a) a.1.toNat) n (rfC (dA a) (acN a.2.1) a.1.toNat)) (odL (clA a (rfL (dA a) a.1.toNat) n (rfC (dA a) (acN a.2.1) a.1.toNat)))=rfA (dA a) (acN a.2.1) a.1.toNat/\
 nuR (clA a (rfL (dA a) a.1.toNat) n (rfC (dA a) (acN a.2.1) a.1.toNat)) (odL (clA a (rfL (dA a) a.1.toNat) n (rfC (dA a) (acN a.2.1) a.1.toNat)))=(rfT (dA a) (acN a.2.1) a.1.toNat).map inF:=by have e:odL (clA a (rfL (dA a) a.1.toNat) n (rfC (dA a) (acN a.2.1) a.1.toNat))=rfO (dA a) (acN a.2.1) a.1.toNat:=h.ord;have b:=h.od;rw[e]at b ⊢;have c:=b.lt;unfold rfA rfT tabK;refine⟨GT λk d=>?_,?_⟩;have d:=c k d;show acN ((List.range n).map _) k=_;unfold acN;rw[GB,GQ,List.getElem?_range d];rfl;rw[Hp];refine GT λk d=>?_;show inF ((scR _ k).map _)=inF _;rw[h.dA (c k d)];exact Hu inF (GT λs _=>rU _ s)
noncomputable def nLe:Nat:=Func.ntmps f24
noncomputable def bLe:Code:=au f24
def elLe:El:={elT [74,88,107] [33]with app:=true,gm:=λ_=>true,ml:=λ_ es k=>some (.int .i64 (mgS es k),mhS es k),mu:=λ_ es _ k v=>some (msS es k v,mnS es k v)}
def slE1:Lg:=[1,2,3,4,5]
def slE2:Lg:=[1,2,3,4,6]
def slE3:Lg:=[1,2,3,4,6,7,8,9]
def slE4:Lg:=[1,2,3,4,6,7,8,9,10,11]
def nsE4:List (NPos×TypeId×Nat):=[(.slot 10,3,1)]
def pE1:Lg:=[1,1,1,0,1,0]
def pE2:Lg:=[1,1,1,1,1,0,0]
def pE3:Lg:=[0,1,1,0,1,0]
def pE4:Lg:=[1,0,0,1,0,1,0]
def XLe(P:Value->Prop)(q:Le)(Pn:Value->Lh->Lh->Int->Prop)(ra:Li)(rn:La):SX:=⟨env,[(42,frmR noAr (spMt P q)),(43,frmR noAr spKt),(44,frmR noAr (spNu Pn ra rn))],elLe,λk=>bif Nat.beq k 4 then .autoN [] [] [] slE1 else bif Nat.beq k 9 then .autoN [] [] [] slE2 else bif Nat.beq k 12 then .autoN [] [] [] slE3 else .autoN nsE4 [] [] slE4⟩
structure LE where
 P:Value->Prop
 q:Le
 Pn:Value->Lh->Lh->Int->Prop
 ra:Li
 rn:La
 s:Int
 acc:Li
 nx:La
def XE(v:LE):SX:=XLe v.P v.q v.Pn v.ra v.rn
def iH(K:KV):KX:=finK env (f24.results).toList K
def EW(n m i:Nat):T Value:=(Nd (Nd (Nd Lf (some (groS 2 n)) Lf) (some (.pointer (some ⟨0,0,none⟩))) (Nd Lf (some (.int .i64 i)) Lf)) none (Nd (Nd Lf (some (groS 3 m)) Lf) (some (.pointer (some ⟨1,0,none⟩))) Lf))
def frE2(n m c:Nat):T Value:=(Nd (Nd (Nd Lf (some (groS 2 n)) Lf) (some (.pointer (some ⟨0,0,none⟩))) Lf) none (Nd (Nd Lf (some (groS 3 m)) Lf) (some (.pointer (some ⟨1,0,none⟩))) (Nd Lf (some (.int .i64 c)) Lf)))
def frE3(n m c k i:Nat):T Value:=(Nd (Nd (Nd (Nd Lf (some (groS 4 k)) Lf) (some (groS 2 n)) Lf) (some (.pointer (some ⟨0,0,none⟩))) (Nd (Nd Lf (some (.int .i64 i)) Lf) none Lf)) none (Nd (Nd (Nd Lf (some (.map (some 5))) Lf) (some (groS 3 m)) Lf) (some (.pointer (some ⟨1,0,none⟩))) (Nd Lf (some (.int .i64 c)) Lf)))
def frE4(n m c k i r b:Nat):T Value:=(Nd (Nd (Nd (Nd Lf (some (groS 4 k)) Lf) (some (groS 2 n)) (Nd Lf (some (.int .i64 b)) Lf)) (some (.pointer (some ⟨0,0,none⟩))) (Nd (Nd Lf (some (.int .i64 i)) Lf) none Lf)) none (Nd (Nd (Nd Lf (some (.map (some 5))) Lf) (some (groS 3 m)) Lf) (some (.pointer (some ⟨1,0,none⟩))) (Nd (Nd Lf (some (groS 6 r)) Lf) (some (.int .i64 c)) Lf)))
def hE1(v:LE)(cl:Le):AH:=⟨(Nd (Nd (Nd Lf (some (groI cl)) Lf) (some (.cells [.int .i64 0,nilS,nilS] 25)) Lf) (some (auC v.s v.acc v.nx)) (Nd Lf (some (groI v.q)) Lf)),4⟩
def hE3(v:LE)(cl nw:Le)(ks:List LB):AH:=⟨(Nd (Nd (Nd Lf (some (groI cl)) Lf) (some (.cells [.int .i64 0,nilS,nilS] 25)) (Nd Lf (some (.map (enS (mkM ks)) ks.length)) Lf)) (some (auC v.s v.acc v.nx)) (Nd (Nd Lf (some (groI nw)) Lf) (some (groI v.q)) Lf)),6⟩
def hE4(v:LE)(cl nw:Le)(ks:List LB)(r:Le):AH:=⟨(Nd (Nd (Nd Lf (some (groI cl)) Lf) (some (.cells [.int .i64 0,nilS,nilS] 25)) (Nd Lf (some (.map (enS (mkM ks)) ks.length)) Lf)) (some (auC v.s v.acc v.nx)) (Nd (Nd Lf (some (groI nw)) Lf) (some (groI v.q)) (Nd Lf (some (groI r)) Lf))),7⟩
def jLe(K:KV)(v:LE):Prop:=bh (XE v) 1 f24 [.agg ⟨[.int .i64 v.s,dat 1 (blV v.acc),dat 1 (roV v.nx)]⟩] ⟨.leaf,0⟩ K
def jE1(K:KV)(again:KF)(v:LE)(cl:Le)(i:Nat):Prop:=aI (XE v) 1 nLe ⟨.leaf,0⟩ bLe pE1 (iH K) [] [] [] slE1 again (EW v.q.length cl.length i) (hE1 v cl)
def jE2(K:KV)(again:KF)(v:LE)(cl:Le)(c:Nat):Prop:=aI (XE v) 1 nLe ⟨.leaf,0⟩ bLe pE2 (iH K) [] [] [] slE2 again (frE2 v.q.length cl.length c) (hE1 v cl)
noncomputable def kE2(K:KV)(again2:KF)(v:LE):KX:=stepF (XE v) 1 nLe ⟨.leaf,0⟩ bLe pE2 (iH K) [] [] [] slE2 again2
def jE3(K:KV)(again2 again:KF)(v:LE)(cl nw:Le)(ks:List LB)(c i:Nat):Prop:=aI (XE v) 1 nLe ⟨.leaf,0⟩ (ak (subC pE2 bLe)) pE3 (kE2 K again2 v) [] [] [] slE3 again (frE3 v.q.length cl.length c nw.length i) (hE3 v cl nw ks)
noncomputable def kE3(K:KV)(again2 again3:KF)(v:LE):KX:=stepF (XE v) 1 nLe ⟨.leaf,0⟩ (ak (subC pE2 bLe)) pE3 (kE2 K again2 v) [] [] [] slE3 again3
def jE4(K:KV)(again2 again3 again:KF)(v:LE)(cl nw:Le)(ks:List LB)(c i:Nat)(r:Le)(b:Nat):Prop:=aI (XE v) 1 nLe ⟨.leaf,0⟩ (ak (subC pE3 (ak (subC pE2 bLe)))) pE4 (kE3 K again2 again3 v) nsE4 [] [] slE4 again (frE4 v.q.length cl.length c nw.length i r.length b) (hE4 v cl nw ks r)
theorem Mv(K:KV)(v:LE):jLe K v=(HFs [O' v.acc,W_ v.nx,Ls v.q] (PH (Prod.fst (some (LE.P v (f_ [Vi v.s,O' v.acc,W_ v.nx])),Kl (i_ v.q),[e_ v.q])))/\(0<=Kh v.nx/\Kh v.nx<=Kh v.nx/\Kh v.nx<=281474976710656/\8*Int.toNat (Kh v.nx)<=281474976710656)/\V' v.acc/\K9 v.nx/\I_ v.q/\J0 (Ly (Kh v.nx))/\LAtZ (XE v) 1 f24.ntmps (AH.mk Lf 0) (au f24) [1,1,1,0,1,0] (finK (SX.E (XE v)) f24.results.toList K) (No (Ns (Kj 2 0 (i_ v.q)) h_ (M' 0)) (Kd (Kj 3 0 (z_ (Kh v.nx))) (c_ 1 0))) (Q_ (Ns (KG (Ly (Kh v.nx)) 3) C_ Lf) (l_ v.s v.acc v.nx) (J3 v.q) 4)):=by kernel_rfl
theorem jLe_nf:type_of%(by have h:=@Mv;revert h;delta b_ c_ e_ f_ g_ h_ i_ j_ k_ l_ n_ z_ C_ I_ Q_ W_ M' O' V' J0 J3 Kd Kh Kj Kl KG K9 Ls Ly;exact id):=@Mv
theorem Mw(K:KV)(again:KF)(v:LE)(cl:Le)(i:Nat):jE1 K again v cl i=(Sp (decide ((i:Int)<j_ v.q)) ((0<=(i:Int)/\(i:Int)<j_ v.q)/\nth (inV v.q) i=some (Vi (P_ v.q i))/\(0<=aa (inV v.q) i/\aa (inV v.q) (i:Int)<j_ (blV v.acc))/\nth (blV v.acc) (z_ (Kp (P_ v.q i)))=some (KN (blV v.acc) (Kp (P_ v.q i)))/\Sp (aG (blV v.acc) (Kp (P_ v.q i))) ((0<=(i:Int)/\(i:Int)<j_ v.q)/\nth (inV v.q) i=some (Vi (P_ v.q i))/\(0<=aa (inV v.q) i/\aa (inV v.q) (i:Int)<B_ cl.length)/\Int.toNat (m_ (inV v.q) i)<List.length (inV cl)/\V' v.acc/\K9 v.nx/\I_ v.q/\J0 (Lr cl (m_ (inV v.q) i) 1)/\again (No (Ns (Kj 2 0 (i_ v.q)) h_ (v_ ((i:Int)+1))) (Kd (Kj 3 0 cl.length) (c_ 1 0))) (Q_ (Ns (KG (Lr cl (m_ (inV v.q) i) 1) 3) C_ Lf) (l_ v.s v.acc v.nx) (J3 v.q) 4)) (V' v.acc/\K9 v.nx/\I_ v.q/\I_ cl/\again (No (Ns (Kj 2 0 (i_ v.q)) h_ (v_ ((i:Int)+1))) (Kd (Kj 3 0 cl.length) (c_ 1 0))) (Q_ (Ns (J3 cl) C_ Lf) (l_ v.s v.acc v.nx) (J3 v.q) 4))) (V' v.acc/\K9 v.nx/\I_ v.q/\I_ cl/\LAtZ (XE v) 1 nLe (AH.mk Lf 0) bLe [1,1,1,1,1,0,0] (iH K) (No (Ns (Kj 2 0 (i_ v.q)) h_ Lf) (Ns (Kj 3 0 cl.length) (c_ 1 0) (M' 0))) (Q_ (Ns (J3 cl) C_ Lf) (l_ v.s v.acc v.nx) (J3 v.q) 4))):=by kernel_rfl
theorem jE1_nf:type_of%(by have h:=@Mw;revert h;delta b_ c_ e_ f_ g_ h_ i_ j_ k_ l_ m_ n_ v_ z_ B_ C_ I_ P_ Q_ W_ M' V' J0 J3 Kd Kj Kp KG KN K9 Lr;exact id):=@Mw
theorem Mx(K:KV)(again:KF)(v:LE)(cl:Le)(c:Nat):jE2 K again v cl c=((0<=Kh v.nx/\Kh v.nx<=Kh v.nx/\Kh v.nx<=281474976710656/\8*Int.toNat (Kh v.nx)<=281474976710656)/\V' v.acc/\K9 v.nx/\I_ v.q/\I_ cl/\J0 (Ly (Kh v.nx))/\Lp/\LAtZ (XE v) 1 nLe (AH.mk Lf 0) (ak (subC pE2 bLe)) [0,1,1,0,1,0] (stepF (XE v) 1 nLe (AH.mk Lf 0) bLe pE2 (iH K) [] [] [] slE2 again) (No (Ns (Kd (Kj 4 0 (z_ (Kh v.nx))) (g_ 2 0 (i_ v.q))) h_ (F_ (Vi 0))) (Ns (Kd (Sg (J_ 5)) (g_ 3 0 cl.length)) (c_ 1 0) (M' c))) (Q_ (Ns (J3 cl) C_ (Sg (Y' [] 0))) (l_ v.s v.acc v.nx) (Kd (KG (Ly (Kh v.nx)) 3) (e_ v.q)) 6)):=by kernel_rfl
theorem jE2_nf:type_of%(by have h:=@Mx;revert h;delta b_ c_ e_ f_ g_ h_ i_ j_ k_ l_ n_ z_ C_ F_ I_ J_ Q_ W_ M' V' Y' J0 J3 Kd Kh Kj KG K9 Lp Ly;exact id):=@Mx
theorem My(K:KV)(again2:KF)(again:KF)(v:LE)(cl:Le)(nw:Le)(ks:List LB)(c i:Nat):jE3 K again2 again v cl nw ks c i=(Sp (decide ((i:Int)<j_ v.q)) ((0<=(i:Int)/\(i:Int)<j_ v.q)/\nth (inV v.q) i=some (Vi (P_ v.q i))/\(0<=aa (inV v.q) i/\aa (inV v.q) (i:Int)<B_ cl.length)/\nth (inV cl) (z_ (m_ (inV v.q) i))=some (K' cl (inV v.q) i)/\V' v.acc/\K9 v.nx/\I_ v.q/\I_ cl/\I_ nw/\J0 (mvl (Kz ks))/\J0 [K' cl (inV v.q) i]/\LAtZ (XE v) 1 nLe (AH.mk Lf 0) (ak (subC pE3 (ak (subC pE2 bLe)))) [1,0,0,1,0,1,0] (stepF (XE v) 1 nLe (AH.mk Lf 0) (ak (subC pE2 bLe)) pE3 (kE2 K again2 v) [] [] [] slE3 again) (No (Ns (Ns (Kj 4 0 nw.length) (g_ 2 0 (i_ v.q)) (M' 0)) h_ (F_ (Vi i))) (Ns (Kd (Sg (J_ 5)) (g_ 3 0 cl.length)) (c_ 1 0) (Kd (Sg (U' 6 0 1 18446744073709551620)) (Vi c)))) (Q_ (Ns (J3 cl) C_ (Sg (Y' (Kz ks) ks.length))) (l_ v.s v.acc v.nx) (Ns (J3 nw) (e_ v.q) (KG [K' cl (inV v.q) i] 3)) 7)) (Sp (decide (j_ (Kz ks)=(c:Int))) (HFs [O' v.acc,W_ v.nx,Ls v.q,Ls nw,f_ (roV v.rn),f_ (blV v.ra),Ls v.q,Ls nw] (PH (Prod.fst (some ((([]:Lh)=[]/\([]:Lh)=[])/\(List.length v.q=List.length (inV v.q)/\List.length nw=List.length (inV nw))/\LE.Pn v (f_ [Vi v.s,O' v.acc,W_ v.nx]) (inV v.q) (inV nw) c),f_ [Vi 0,g_ 2 0 (i_ v.ra),g_ 3 0 (i_ v.rn)],[e_ v.q,e_ nw,Z_ v.ra,O_ v.rn])))/\K (f_ [Vi 0,g_ 6 0 (i_ v.ra),g_ 7 0 (i_ v.rn)]) (Q_ (Ns (Kd (Sg (O_ v.rn)) (e_ cl)) (n_ [Vi 0,g_ 6 0 (i_ v.ra),g_ 7 0 (i_ v.rn)] 25) (Sg (Y' (Kz ks) ks.length))) (l_ v.s v.acc v.nx) (Ns (J3 nw) (e_ v.q) (Sg (Z_ v.ra))) 8)) (V' v.acc/\K9 v.nx/\I_ v.q/\I_ nw/\again2 (No (Ns (Kj 2 0 (i_ v.q)) h_ Lf) (Ns (Kj 3 0 nw.length) (c_ 1 0) (M' (j_ (Kz ks))))) (Q_ (Ns (J3 nw) C_ Lf) (l_ v.s v.acc v.nx) (J3 v.q) 4)))):=by kernel_rfl
theorem jE3_nf:type_of%(by have h:=@My;revert h;delta b_ c_ e_ f_ g_ h_ i_ j_ k_ l_ m_ n_ z_ B_ C_ F_ I_ J_ O_ P_ Q_ W_ Z_ K' M' O' U' V' Y' J0 J3 Kd Kj Kz KG K9 Ls;exact id):=@My
abbrev K_:=λa=>Vs (ByteArray.mk (Array.mk (Go.HK.keyB (toN (inV a)))))
abbrev KC:=λa b=>msS (enS (mkM a)) (K_ b) (Vi (j_ (enS (mkM a))))
theorem Mz(K:KV)(again2:KF)(again3:KF)(again:KF)(v:LE)(cl:Le)(nw:Le)(ks:List LB)(c i:Nat)(r:Le)(b:Nat):jE4 K again2 again3 again v cl nw ks c i r b=(Sp (decide ((b:Int)<256)) (Sp (decide ((b:Int)=0)) ((0<=(i:Int)/\(i:Int)<j_ v.q)/\nth (inV v.q) i=some (Vi (P_ v.q i))/\(0<=aa (inV v.q) i/\aa (inV v.q) (i:Int)<Kh v.nx)/\nth (roV v.nx) (z_ (Kp (P_ v.q i)))=some (Vd 1 (KP v.nx v.q i))/\(0<=(b:Int)/\(b:Int)<j_ (KP v.nx v.q i))/\nth (KP v.nx v.q i) b=some (Vi (aa (KP v.nx v.q i) b))/\(0<=aa (KP v.nx v.q i) b/\aa (KP v.nx v.q i) (b:Int)<B_ cl.length)/\nth (inV cl) (z_ (m_ (KP v.nx v.q i) b))=some (K' cl (KP v.nx v.q i) b)/\(List.all [Vi b,K' cl (KP v.nx v.q i) b] cellv=true/\List.length r+0=List.length (inV r)/\List.length r+(2:Nat)<=(70368744177664:Nat)/\(List.length r+2)*(8:Nat)<=(140737488355328:Nat))/\V' v.acc/\K9 v.nx/\I_ v.q/\I_ cl/\I_ nw/\J0 (mvl (Kz ks))/\J0 (inV r++[Vi b,K' cl (KP v.nx v.q i) b])/\again (No (Ns (Ns (Kj 4 0 nw.length) (g_ 2 0 (i_ v.q)) (v_ ((b:Int)+1))) h_ (F_ (Vi i))) (Ns (Kd (Sg (J_ 5)) (g_ 3 0 cl.length)) (c_ 1 0) (Kd (Kj 6 0 (List.length r+2)) (Vi c)))) (Q_ (Ns (J3 cl) C_ (Sg (Y' (Kz ks) ks.length))) (l_ v.s v.acc v.nx) (Ns (J3 nw) (e_ v.q) (KG (inV r++[Vi b,K' cl (KP v.nx v.q i) b]) 3)) 7)) ((0<=(i:Int)/\(i:Int)<j_ v.q)/\nth (inV v.q) i=some (Vi (P_ v.q i))/\(0<=aa (inV v.q) i/\aa (inV v.q) (i:Int)<Kh v.nx)/\nth (roV v.nx) (z_ (Kp (P_ v.q i)))=some (Vd 1 (KP v.nx v.q i))/\(0<=(b:Int)/\(b:Int)<j_ (KP v.nx v.q i))/\nth (KP v.nx v.q i) b=some (Vi (aa (KP v.nx v.q i) b))/\(0<=aa (KP v.nx v.q i) b/\aa (KP v.nx v.q i) (b:Int)<B_ cl.length)/\nth (inV cl) (z_ (m_ (KP v.nx v.q i) b))=some (K' cl (KP v.nx v.q i) b)/\(0<=(i:Int)/\(i:Int)<j_ v.q)/\nth (inV v.q) i=some (Vi (P_ v.q i))/\(0<=aa (inV v.q) i/\aa (inV v.q) (i:Int)<Kh v.nx)/\nth (roV v.nx) (z_ (Kp (P_ v.q i)))=some (Vd 1 (KP v.nx v.q i))/\(0<=IntKind.wrap .i64 ((b:Int)-1)/\IntKind.wrap .i64 ((b:Int)-1)<j_ (KP v.nx v.q i))/\nth (KP v.nx v.q i) (z_ (Kp (x_ ((b:Int)-1))))=some (Vi (aa (KP v.nx v.q i) (Kp (x_ ((b:Int)-1)))))/\(0<=aa (KP v.nx v.q i) (Kp (x_ ((b:Int)-1)))/\aa (KP v.nx v.q i) (Kp (x_ ((b:Int)-1)))<B_ cl.length)/\nth (inV cl) (z_ (m_ (KP v.nx v.q i) (Kp (x_ ((b:Int)-1)))))=some (K' cl (KP v.nx v.q i) (Kp (x_ ((b:Int)-1))))/\Sp (! decide (aa (inV cl) (m_ (KP v.nx v.q i) b)=aa (inV cl) (m_ (KP v.nx v.q i) (Kp (x_ ((b:Int)-1)))))) ((0<=(i:Int)/\(i:Int)<j_ v.q)/\nth (inV v.q) i=some (Vi (P_ v.q i))/\(0<=aa (inV v.q) i/\aa (inV v.q) (i:Int)<Kh v.nx)/\nth (roV v.nx) (z_ (Kp (P_ v.q i)))=some (Vd 1 (KP v.nx v.q i))/\(0<=(b:Int)/\(b:Int)<j_ (KP v.nx v.q i))/\nth (KP v.nx v.q i) b=some (Vi (aa (KP v.nx v.q i) b))/\(0<=aa (KP v.nx v.q i) b/\aa (KP v.nx v.q i) (b:Int)<B_ cl.length)/\nth (inV cl) (z_ (m_ (KP v.nx v.q i) b))=some (K' cl (KP v.nx v.q i) b)/\(List.all [Vi b,K' cl (KP v.nx v.q i) b] cellv=true/\List.length r+0=List.length (inV r)/\List.length r+(2:Nat)<=(70368744177664:Nat)/\(List.length r+2)*(8:Nat)<=(140737488355328:Nat))/\V' v.acc/\K9 v.nx/\I_ v.q/\I_ cl/\I_ nw/\J0 (mvl (Kz ks))/\J0 (inV r++[Vi b,K' cl (KP v.nx v.q i) b])/\again (No (Ns (Ns (Kj 4 0 nw.length) (g_ 2 0 (i_ v.q)) (v_ ((b:Int)+1))) h_ (F_ (Vi i))) (Ns (Kd (Sg (J_ 5)) (g_ 3 0 cl.length)) (c_ 1 0) (Kd (Kj 6 0 (List.length r+2)) (Vi c)))) (Q_ (Ns (J3 cl) C_ (Sg (Y' (Kz ks) ks.length))) (l_ v.s v.acc v.nx) (Ns (J3 nw) (e_ v.q) (KG (inV r++[Vi b,K' cl (KP v.nx v.q i) b]) 3)) 7)) (V' v.acc/\K9 v.nx/\I_ v.q/\I_ cl/\I_ nw/\J0 (mvl (Kz ks))/\I_ r/\again (No (Ns (Ns (Kj 4 0 nw.length) (g_ 2 0 (i_ v.q)) (v_ ((b:Int)+1))) h_ (F_ (Vi i))) (Ns (Kd (Sg (J_ 5)) (g_ 3 0 cl.length)) (c_ 1 0) (Kd (Kj 6 0 r.length) (Vi c)))) (Q_ (Ns (J3 cl) C_ (Sg (Y' (Kz ks) ks.length))) (l_ v.s v.acc v.nx) (Ns (J3 nw) (e_ v.q) (J3 r)) 7)))) (HFs [Ls r,Ls r] (PH (Prod.fst (some (([]:Lh)=[]/\inV r=inV (inF (toN (inV r)))/\List.length r=List.length (inV r)/\(∀(x:Nat),x∈toN (inV r)->x<1679616)/\List.length (inV r)<=100000),K_ r,[e_ r])))/\cu (SX.E (XE v)) 86 (Kz ks) (K_ r)=some (Vi (mgS (Kz ks) (K_ r)),mhS (Kz ks) (K_ r))/\Sp (! mhS (Kz ks) (K_ r)) (ba (SX.E (XE v)) 86 (Kz ks) ks.length (K_ r) (Vi (j_ (Kz ks)))=some (KC ks r,mnS (Kz ks) (K_ r) (Vi (j_ (Kz ks))))/\(0<=(i:Int)/\(i:Int)<j_ v.q)/\nth (inV v.q) i=some (Vi (P_ v.q i))/\cu (SX.E (XE v)) 86 (KC ks r) (K_ r)=some (Vi (mgS (KC ks r) (K_ r)),mhS (KC ks r) (K_ r))/\(0<=aa (inV v.q) i/\aa (inV v.q) (i:Int)<B_ nw.length)/\Int.toNat (m_ (inV v.q) i)<List.length (inV nw)/\V' v.acc/\K9 v.nx/\I_ v.q/\I_ cl/\J0 (Lr nw (m_ (inV v.q) i) (mgS (KC ks r) (K_ r)))/\J0 (mvl (KC ks r))/\again3 (No (Ns (Kd (Kj 4 0 nw.length) (g_ 2 0 (i_ v.q))) h_ (No (v_ ((i:Int)+1)) Lf)) (Ns (Kd (Sg (J_ 5)) (g_ 3 0 cl.length)) (c_ 1 0) (M' c))) (Q_ (Ns (J3 cl) C_ (Sg (Y' (KC ks r) (mnS (Kz ks) (K_ r) (Vi (j_ (Kz ks))))))) (l_ v.s v.acc v.nx) (Kd (KG (Lr nw (m_ (inV v.q) i) (mgS (KC ks r) (K_ r))) 3) (e_ v.q)) 6)) ((0<=(i:Int)/\(i:Int)<j_ v.q)/\nth (inV v.q) i=some (Vi (P_ v.q i))/\cu (SX.E (XE v)) 86 (Kz ks) (K_ r)=some (Vi (mgS (Kz ks) (K_ r)),mhS (Kz ks) (K_ r))/\(0<=aa (inV v.q) i/\aa (inV v.q) (i:Int)<B_ nw.length)/\Int.toNat (m_ (inV v.q) i)<List.length (inV nw)/\V' v.acc/\K9 v.nx/\I_ v.q/\I_ cl/\J0 (Lr nw (m_ (inV v.q) i) (mgS (Kz ks) (K_ r)))/\J0 (mvl (Kz ks))/\again3 (No (Ns (Kd (Kj 4 0 nw.length) (g_ 2 0 (i_ v.q))) h_ (No (v_ ((i:Int)+1)) Lf)) (Ns (Kd (Sg (J_ 5)) (g_ 3 0 cl.length)) (c_ 1 0) (M' c))) (Q_ (Ns (J3 cl) C_ (Sg (Y' (Kz ks) ks.length))) (l_ v.s v.acc v.nx) (Kd (KG (Lr nw (m_ (inV v.q) i) (mgS (Kz ks) (K_ r))) 3) (e_ v.q)) 6)))):=by kernel_rfl
theorem jE4_nf:type_of%(by have h:=@Mz;revert h;delta b_ c_ e_ f_ g_ h_ i_ j_ k_ l_ m_ n_ r_ v_ x_ z_ B_ C_ F_ I_ J_ K_ P_ Q_ W_ K' M' V' Y' J0 J3 Kd Kh Kj Kp Kz KC KG KP K9 Lr Ls;exact id):=@Mz
def LE.a(v:LE):AU:=(v.s,v.acc,v.nx)
structure LeOk (v:LE) (l:Lg):Prop where
 X:(XE v).Ok
 q:v.q=inF l
 ok:OkL v.a
 lt:∀ s∈l,s<v.nx.length
 cls:∀ s∈l,∀b,b<256->dA v.a s b∈l
 ne:l≠[]
 l1:l.length<=90000
def clL(N:Nat)(l:Lg)(f:Nat->Nat):Le:=(List.range N).map λs=>((if s∈l then f s else 0:Nat):Int)
theorem bq(N:Nat)(l:Lg)(f:Nat->Nat):(clL N l f).length=N:=by unfold clL;rw[Gu,Hg]
theorem sG{s:Nat}(h:s<N):∃ a:s<(clL N l f).length,(clL N l f)[s]=((if s∈l then f s else 0:Nat):Int):=by refine⟨by rw[bq];exact h,?_⟩;unfold clL;rw[II,Jc]
theorem sF{s:Nat}(h:s<N)(c:s∈l):∃ b:s<(clL N l f).length,(clL N l f)[s]=(f s:Nat):=by obtain⟨b,a⟩:=sG (l:=l) (f:=f) h;rw[E' c]at a;exact⟨b,a⟩
theorem xl(N:Nat)(f:Nat->Nat):clL N [] f=List.replicate N 0:=by unfold clL;rw[JI];refine⟨by simp,λx a=>?_⟩;obtain⟨k,_,rfl⟩:=Gv.1 a;simp
theorem xm{A:Le}(a:A.length=N)(h:∀ s (h:s<A.length),A[s]=((if s∈l then f s else 0:Nat):Int)):A=clL N l f:=by refine Ji (by rw[a,bq]) λi b d=>?_;obtain⟨e,c⟩:=sG (N:=N) (l:=l) (f:=f) (s:=i) (by omega);rw[c,h i b]
theorem qH(a:i<l.length)(s:Nat):s∈l.take (i+1)↔s∈l.take i∨s=l[i]:=by rw[GU a,GS,GZ]
theorem sE(c:i<l.length):(clL N (l.take i) f).set l[i] (f l[i]:Nat)=clL N (l.take (i+1)) f:=by refine xm (by rw[GF,bq]) λs h=>?_;rw[GF,bq]at h;obtain⟨g,d⟩:=sG (N:=N) (l:=l.take i) (f:=f) h;have b:=qH c s;rw[List.getElem_set];by_cases e:l[i]=s;rw[E' e,E' (b.2 (.inr e.symm)),e];rw[C' e,d];by_cases a:s∈l.take i;rw[E' a,E' (b.2 (.inl a))];rw[C' a,C' (λh=>(b.1 h).elim a (λh=>e h.symm))]
theorem z6(c:i<l.length)(d:f l[i]=0):clL N (l.take i) f=clL N (l.take (i+1)) f:=by refine xm (bq _ _ _) λs h=>?_;rw[bq]at h;obtain⟨j,g⟩:=sG (N:=N) (l:=l.take i) (f:=f) h;have b:=qH c s;rw[g];by_cases a:s∈l.take i;rw[E' a,E' (b.2 (.inl a))];by_cases e:s=l[i];rw[C' a,E' (b.2 (.inr e)),e,d];rw[C' a,C' (λh=>(b.1 h).elim a e)]
theorem xn{g:Nat->Nat}(h:∀ s∈l,f s=g s):clL N l f=clL N l g:=by unfold clL;refine GT λs _=>?_;by_cases e:s∈l;rw[E' e,E' e,h s e];rw[C' e,C' e]
theorem Fu{K:KV}{v:LE}(h:LeOk v l)
 (o:LAtZ (XE v) 1 nLe ⟨.leaf,0⟩ bLe pE2 (iH K) (frE2 v.q.length v.nx.length 0) (hE1 v (clL v.nx.length l (ac01 (acN v.acc))))):
 LAtZ (XE v) 1 nLe ⟨.leaf,0⟩ bLe pE1 (iH K) (EW v.q.length v.nx.length 0) (hE1 v (List.replicate v.nx.length 0)):=by
 have w:=ao l;have u:v.q.length=l.length:=by rw[h.q,w]
 have z:=h.l1;have D:v.acc.length=v.nx.length:=h.ok.acc;refine LAtZ.stepF h.X [] [] [] slE1 (by kernel_rfl) (λm G A=>∃ i:Nat,G=EW v.q.length (clL v.nx.length (l.take i) (ac01 (acN v.acc))).length i/\A=hE1 v (clL v.nx.length (l.take i) (ac01 (acN v.acc)))/\i+m=l.length) ?_ (k:=l.length) ⟨0,by rw[bq],by rw[List.take_zero,xl],by omega⟩;rintro m G A ⟨i,rfl,rfl,B⟩;have C:=bq v.nx.length (l.take i) (ac01 (acN v.acc));refine(jE1_nf _ _ v (clL v.nx.length (l.take i) (ac01 (acN v.acc))) i).mpr (Sp.intro (λc=>?_) (λc=>?_));have c:=odt c;have g:i<l.length:=by omega
 have e:i<(inF l).length:=by omega
 have F:aa (inV v.q) (i:Int)=(l[i]:Nat):=by rw[h.q,aq e,bF g]
 have r:nth (inV v.q) i=some (Vi (l[i]:Nat)):=by rw[h.q,aP e,bF g]
 have y:=h.lt _ (Gy g);have a:l[i]<v.acc.length:=by omega
 have E:aG (blV v.acc) ((l[i]:Nat):Int)=acN v.acc l[i]:=by rw[bv a];unfold acN;rw[gD a]
 have s:nth (blV v.acc) l[i]=some (.bool (acN v.acc l[i])):=by rw[di a];unfold acN;rw[gD a]
 have t:=bc v.acc;have b:=sE (N:=v.nx.length) (f:=ac01 (acN v.acc)) g;have j:=z6 (N:=v.nx.length) (f:=ac01 (acN v.acc)) g;have p:ac01 (acN v.acc) l[i]=if acN v.acc l[i]then 1 else 0:=rfl;rw[p]at b j;rw[F];simp only[Gs,GP];rw[E,t,ce,aA (x:=(i:Int)+1) (by omega) (by omega)];refine⟨⟨by omega,by omega⟩,r,⟨by omega,by omega⟩,s,Sp.intro (λd=>?_) (λd=>?_)⟩;rw[E' d]at b;have b:(clL v.nx.length (l.take i) (ac01 (acN v.acc))).set l[i] 1=_:=b;rw[b];refine⟨⟨by omega,by omega⟩,r,⟨by omega,by omega⟩,by rw[ah];omega,.dat (aN _),.dat (aK _),ab _,ab _,m-1,by omega,i+1,?_,rfl,by omega⟩;rw[bq,bq];rfl;rw[C' (by rw[d];decide)]at j;rw[j rfl];exact⟨.dat (aN _),.dat (aK _),ab _,ab _,m-1,by omega,i+1,rfl,rfl,by omega⟩;have c:=odf c;obtain rfl:i=l.length:=by omega
 rw[Hh,bq];exact⟨.dat (aN _),.dat (aK _),ab _,ab _,o⟩
end
end Go.T9
set_option maxHeartbeats 800000
namespace Go.T9
open Go Go.AM Go.MK Go.HK
noncomputable section
variable {v:LE}{l:Lg}{c:Nat}{f:Nat->Nat}
theorem wX(ks:List LB):(enS (mkM ks)).length=ks.length:=by unfold enS;rw[ql,dC]
def chR(g:Nat->Nat)(x b:Nat):Lg:=x::chg 0 none ((List.range b).map g)
theorem nh(g:Nat->Nat)(x b:Nat):chR g x (b+1)=if b=0∨g b≠g (b-1)then chR g x b++[b,g b]else chR g x b:=by
 unfold chR;rw[jF,sH,Gu,Hg,HO];cases b with
 |zero=>simp
 |succ k=>
 have e:((List.range (k+1)).map g).getLast? =some (g k):=by rw[jF,List.getLast?_append];rfl
 rw[e];show x::(_++if(some (g k))=some (g (k+1))then []else [k+1,g (k+1)])=_;by_cases h:g k=g (k+1);rw[E' (by rw[h]),C' (by simp;exact h.symm),GA];rw[C' (by simpa using h),E' (.inr (λe=>h e.symm))];rfl
theorem xr(g:Nat->Nat)(x:Nat):∀ b,(chR g x b).length<=2*b+1
 |0=>by simp[chR,chg]
 |b+1=>by have:=xr g x b;rw[nh];split;rw[Gr];simp;omega;omega
theorem xq{g:Nat->Nat}{x:Nat}(e:x<1679616)(d:∀ b,b<256->g b<1679616):∀ b,b<=256->∀ y∈chR g x b,y<1679616
 | 0,_,y,h=>by
  have:y=x:=by simpa[chR,chg]using h
  omega
 | b+1,hb,y,h=>by
  rw[nh]at h;split at h;rcases GS.1 h with a|a;exact xq e d b (by omega) y a;have:=d b (by omega);rcases Gz.1 a with rfl|a;omega;have:y=g b:=by simpa using a
  omega;exact xq e d b (by omega) y h
theorem Dl(δ :Nat->Nat->Nat)(f:Nat->Nat)(s:Nat):keyT δ f s=keyB (chR (λb=>f (δ s b)) (f s) 256):=rfl
theorem Fr{K:KV}{again2 again3:KF}(h:LeOk v l)(Y:∀ s∈l,f s<=90000){nw:Le}{ks:List LB}{i:Nat}(N:i<l.length)(u:nw.length=v.nx.length)(a4:ks.length<=90000)
 (p:again3 (frE3 v.q.length v.nx.length c v.nx.length (i+1)) (hE3 v (clL v.nx.length l f) (nw.set l[i] (idN (addS ks [keyT (dA v.a) f l[i]]) (keyT (dA v.a) f l[i]):Nat)) (addS ks [keyT (dA v.a) f l[i]]))):
 LAtZ (XE v) 1 nLe ⟨.leaf,0⟩ (ak (subC pE3 (ak (subC pE2 bLe)))) pE4 (kE3 K again2 again3 v) (frE4 v.q.length v.nx.length c v.nx.length i 1 0) (hE4 v (clL v.nx.length l f) nw ks (inF [f l[i]])):=by
 have hq:=ao l;have a2:v.q.length=l.length:=by rw[h.q,hq]
 have a3:=h.l1;have B:i<(inF l).length:=by omega
 have Z:aa (inV v.q) (i:Int)=(l[i]:Nat):=by rw[h.q,aq B,bF N]
 have y:nth (inV v.q) i=some (Vi (l[i]:Nat)):=by rw[h.q,aP B,bF N]
 have n:=Gy N;have w:=h.lt _ n;have o:=h.cls _ n;have a5:=Y _ n;rw[Dl]at p;generalize l[i]=s at*;have t:=bq v.nx.length l f;have hg:∀ b,b<256->f (dA v.a s b)<1679616:=λb I=>by have:=Y _ (o b I);omega
 have l2:=aL v.nx;refine LAtZ.stepF h.X nsE4 [] [] slE4 (by kernel_rfl) (λm G A=>∃ b:Nat,G=frE4 v.q.length (clL v.nx.length l f).length c nw.length i (inF (chR (λb=>f (dA v.a s b)) (f s) b)).length b/\A=hE4 v (clL v.nx.length l f) nw ks (inF (chR (λb=>f (dA v.a s b)) (f s) b))/\b+m=256) ?_ (k:=256) ⟨0,by rw[bq,u];rfl,rfl,rfl⟩;rintro m G A ⟨b,rfl,rfl,a6⟩;have e:=nh (λb=>f (dA v.a s b)) (f s) b;have a0:=xr (λb=>f (dA v.a s b)) (f s) b;have M:=xq (g:=λb=>f (dA v.a s b)) (x:=f s) (by omega) hg b (by omega);refine(jE4_nf _ _ _ _ v (clL v.nx.length l f) nw ks c i (inF (chR (λb=>f (dA v.a s b)) (f s) b)) b).mpr (Sp.intro (λd=>?_) (λd=>?_));have d:=odt d;have I:b<256:=by omega
 have F:∀ j,j<256->(∃h1:j<v.nx[s].length,v.nx[s][j]=(dA v.a s j:Int)/\dA v.a s j<v.nx.length):=λj hj=>h.ok.at' (a:=v.a) w hj;obtain⟨s1,U,s3⟩:=F b I;have e2:ae (roV v.nx) (s:Int)=inV v.nx[s]:=bM w;have H:nth (roV v.nx) s=some (Vd 1 (inV v.nx[s])):=cK w;have e3:aa (inV v.nx[s]) (b:Int)=(dA v.a s b:Nat):=by rw[aq s1,U]
 have L:nth (inV v.nx[s]) b=some (Vi (dA v.a s b:Nat)):=by rw[aP s1,U]
 obtain⟨c1,c2⟩:=sF (f:=f) s3 (o b I);have e4:aa (inV (clL v.nx.length l f)) ((dA v.a s b:Nat):Int)=(f (dA v.a s b):Nat):=by rw[aq c1,c2]
 have J:nth (inV (clL v.nx.length l f)) (dA v.a s b)=some (Vi (f (dA v.a s b):Nat)):=by rw[aP c1,c2]
 have l1:(inV v.nx[s]).length=v.nx[s].length:=ah _;have ea:inV (inF (chR (λb=>f (dA v.a s b)) (f s) b))++[Vi ((b:Nat):Int),Vi ((f (dA v.a s b):Nat):Int)]=inV (inF (chR (λb=>f (dA v.a s b)) (f s) b++[b,f (dA v.a s b)])):=by unfold inV inF;rw[GM,GM];rfl
 have a1:=ao (chR (λb=>f (dA v.a s b)) (f s) b);have z:(inF (chR (λb=>f (dA v.a s b)) (f s) b++[b,f (dA v.a s b)])).length=(inF (chR (λb=>f (dA v.a s b)) (f s) b)).length+2:=by rw[ao,ao,Gr];rfl
 have w0:IntKind.wrap .i64 ((b:Int)+1)=(b:Int)+1:=aA (by omega) (by omega);simp only[Z,Gs,GP,e2,e3,l1,l2,e4,ea,w0];refine Sp.intro (λE=>?_) (λE=>?_);have E:=odt E;rw[E' (.inl (by omega))]at e;refine⟨⟨by omega,by omega⟩,y,⟨by omega,by omega⟩,H,⟨by omega,by omega⟩,L,⟨by omega,by omega⟩,J,⟨rfl,by rw[ah],by omega,by omega⟩,.dat (aN _),.dat (aK _),ab _,ab _,ab _,gS _,ab _,m-1,by omega,b+1,?_,?_,by omega⟩;rw[e,z];rfl;rw[e];rfl;have E:=odf E;have a7:0<b:=by omega
 have C:((b:Int)-1)=((b-1:Nat):Int):=by omega
 obtain⟨S,Q,t3⟩:=F (b-1) (by omega);have e5:aa (inV v.nx[s]) ((b-1:Nat):Int)=(dA v.a s (b-1):Nat):=by rw[aq S,Q]
 have n5:nth (inV v.nx[s]) (b-1)=some (Vi (dA v.a s (b-1):Nat)):=by rw[aP S,Q]
 obtain⟨P,O⟩:=sF (f:=f) t3 (o (b-1) (by omega));have e6:aa (inV (clL v.nx.length l f)) ((dA v.a s (b-1):Nat):Int)=(f (dA v.a s (b-1)):Nat):=by rw[aq P,O]
 have n6:nth (inV (clL v.nx.length l f)) (dA v.a s (b-1))=some (Vi (f (dA v.a s (b-1)):Nat)):=by rw[aP P,O]
 have w1:IntKind.wrap .i64 ((b:Int)-1)=((b-1:Nat):Int):=by rw[C];exact aA (by omega) (by omega)
 simp only[w1,Gs,GP,e5,e6];refine⟨⟨by omega,by omega⟩,y,⟨by omega,by omega⟩,H,⟨by omega,by omega⟩,L,⟨by omega,by omega⟩,J,⟨by omega,by omega⟩,y,⟨by omega,by omega⟩,H,⟨by omega,by omega⟩,n5,⟨by omega,by omega⟩,n6,Sp.intro (λD=>?_) (λD=>?_)⟩;have D:¬ ((f (dA v.a s b):Nat):Int)=(f (dA v.a s (b-1)):Nat):=by simpa using D
 rw[E' (.inr (by omega))]at e;refine⟨⟨by omega,by omega⟩,y,⟨by omega,by omega⟩,H,⟨by omega,by omega⟩,L,⟨by omega,by omega⟩,J,⟨rfl,by rw[ah],by omega,by omega⟩,.dat (aN _),.dat (aK _),ab _,ab _,ab _,gS _,ab _,m-1,by omega,b+1,?_,?_,by omega⟩;rw[e,z];rfl;rw[e];rfl;have D:((f (dA v.a s b):Nat):Int)=(f (dA v.a s (b-1)):Nat):=by simpa using D
 rw[C' (by omega)]at e;refine⟨.dat (aN _),.dat (aK _),ab _,ab _,ab _,gS _,ab _,m-1,by omega,b+1,?_,?_,by omega⟩;rw[e];rfl;rw[e];rfl;have d:=odf d;obtain rfl:b=256:=by omega
 generalize chR (λb=>f (dA v.a s b)) (f s) 256=R at*;have a8:=ao R;rw[toN_in,wX,Z];have ek:Vs (ByteArray.mk (Array.mk (keyB R)))=kS (keyB R):=rfl;rw[ek,vA];simp only[Gs,GP];refine⟨⟨ab _,ab _,⟨trivial,trivial,by rw[ah],M,by rw[ah];omega⟩⟩,(zf _ _).trans (by rw[vA]),Sp.intro (λg=>?_) (λg=>?_)⟩;have g:¬ keyB R∈ks:=by simpa using g
 have r:addS ks [keyB R]=ks++[keyB R]:=by simp only[addS,C' g]
 rw[r]at p;have V:keyB R∈ks++[keyB R]:=by simp
 rw[msS_e _ _ g,mnS_e _ _ g,vB _ _ V,ce,aA (x:=(i:Int)+1) (by omega) (by omega)];refine⟨Ao _ _ g,⟨by omega,by omega⟩,y,(zf _ _).trans (by rw[vB _ _ V]),⟨by omega,by omega⟩,by rw[ah];omega,.dat (aN _),.dat (aK _),ab _,ab _,ab _,gS _,?_⟩;rw[t,u];exact p;have g:keyB R∈ks:=by simpa using g
 have r:addS ks [keyB R]=ks:=by simp only[addS,E' g]
 rw[r]at p;rw[vB _ _ g,ce,aA (x:=(i:Int)+1) (by omega) (by omega)];refine⟨⟨by omega,by omega⟩,y,(zf _ _).trans (by rw[vB _ _ g,vA]),⟨by omega,by omega⟩,by rw[ah];omega,.dat (aN _),.dat (aK _),ab _,ab _,ab _,gS _,?_⟩;rw[t,u];exact p
set_option maxHeartbeats 400000
theorem nC{S:Type}[DecidableEq S]:∀ (a q b:List S),addS q (a++b)=addS (addS q a) b
 | [],q,b=>rfl
 |x::a,q,b=>by simp only[HW,addS];split<;>exact nC a _ b
def ksF(δ :Nat->Nat->Nat)(l:Lg)(f:Nat->Nat):List LB:=addS [] (l.map (keyT δ f))
theorem ksF_T(δ :Nat->Nat->Nat)(l:Lg)(f:Nat->Nat):ksF δ l f=ksT δ l f:=by unfold ksF ksT dd;rw[ky]
def leV(n m:Nat):Value:=.agg ⟨[.int .i64 0,groS 0 n,groS 1 m]⟩
def hLeF(v:LE)(cl nw:Le)(ks:List LB):AH:=⟨(Nd (Nd (Nd (Nd Lf (some (groR v.rn)) Lf) (some (groI cl)) Lf) (some (.cells [.int .i64 0,groS 6 v.ra.length,groS 7 v.rn.length] 25)) (Nd Lf (some (.map (enS (mkM ks)) ks.length)) Lf)) (some (auC v.s v.acc v.nx)) (Nd (Nd Lf (some (groI nw)) Lf) (some (groI v.q)) (Nd Lf (some (groB v.ra)) Lf))),8⟩
theorem end_le(Q:Value->AH->Prop)(v:LE)(cl nw:Le)(ks:List LB):endF env ⟨.leaf,0⟩ [] [] [] Q (.agg ⟨[.int .i64 0,groS 6 v.ra.length,groS 7 v.rn.length]⟩) (hLeF v cl nw ks)=(HF (.agg ⟨blV v.ra⟩)/\HF (.agg ⟨roV v.rn⟩)/\Q (leV v.ra.length v.rn.length) (hM0 v.ra v.rn)):=by kernel_rfl
theorem Fs{Q:Value->AH->Prop}{again2:KF}(h:LeOk v l)(Z:∀ s∈l,f s<=90000)(hQ:Q (leV v.ra.length v.rn.length) (hM0 v.ra v.rn))
 (hY:(ksF (dA v.a) l f).length=c->v.Pn (auV v.a) (inV v.q) (inV (clL v.nx.length l λs=>idN (ksF (dA v.a) l f) (keyT (dA v.a) f s))) (c:Int))
 (hN:(ksF (dA v.a) l f).length≠c->again2 (frE2 v.q.length v.nx.length (ksF (dA v.a) l f).length) (hE1 v (clL v.nx.length l λs=>idN (ksF (dA v.a) l f) (keyT (dA v.a) f s)))):
 LAtZ (XE v) 1 nLe ⟨.leaf,0⟩ (ak (subC pE2 bLe)) pE3 (kE2 (endF env ⟨.leaf,0⟩ [] [] [] Q) again2 v) (frE3 v.q.length v.nx.length c v.nx.length 0) (hE3 v (clL v.nx.length l f) (List.replicate v.nx.length 0) []):=by
 have P:=ao l;have O:v.q.length=l.length:=by rw[h.q,P]
 have R:=h.l1;have w:=bq v.nx.length l f;have t:∀ i,(addS [] ((l.take i).map (keyT (dA v.a) f))).length<=i:=λi=>by
  rw[ky];have:=ct (l:=ddA [] ((l.take i).map (keyT (dA v.a) f))) (m:=(l.take i).map (keyT (dA v.a) f)) (w9 _ _ (by simp)) λk U=>by rcases(qo _ _ _).1 U with h|h;cases h;exact h
  rw[Gu,Hd]at this;omega
 generalize Y:(λs=>idN (ksF (dA v.a) l f) (keyT (dA v.a) f s))=g at*;refine LAtZ.stepF h.X [] [] [] slE3 (by kernel_rfl) (λm G A=>∃ i:Nat,G=frE3 v.q.length (clL v.nx.length l f).length c (clL v.nx.length (l.take i) g).length i/\A=hE3 v (clL v.nx.length l f) (clL v.nx.length (l.take i) g) (addS [] ((l.take i).map (keyT (dA v.a) f)))/\i+m=l.length) ?_ (k:=l.length) ⟨0,by rw[bq,bq],by rw[List.take_zero,xl];rfl,by omega⟩;rintro m G A ⟨i,rfl,rfl,V⟩;have x:=bq v.nx.length (l.take i) g;have S:=t i;refine(jE3_nf _ _ _ v (clL v.nx.length l f) (clL v.nx.length (l.take i) g) (addS [] ((l.take i).map (keyT (dA v.a) f))) c i).mpr (Sp.intro (λd=>?_) (λd=>?_));have d:=odt d;have o:i<l.length:=by omega
 have u:i<(inF l).length:=by omega
 have e1:aa (inV v.q) (i:Int)=(l[i]:Nat):=by rw[h.q,aq u,bF o]
 have M:nth (inV v.q) i=some (Vi (l[i]:Nat)):=by rw[h.q,aP u,bF o]
 have b:=Gy o;have z:=h.lt _ b;obtain⟨J,I⟩:=sF (f:=f) z b;have e2:aa (inV (clL v.nx.length l f)) ((l[i]:Nat):Int)=(f l[i]:Nat):=by rw[aq J,I]
 have L:nth (inV (clL v.nx.length l f)) l[i]=some (Vi (f l[i]:Nat)):=by rw[aP J,I]
 have n:(l.take (i+1)).map (keyT (dA v.a) f)=(l.take i).map (keyT (dA v.a) f)++[keyT (dA v.a) f l[i]]:=by rw[GU o,GM];rfl
 have j:addS [] ((l.take (i+1)).map (keyT (dA v.a) f))=addS (addS [] ((l.take i).map (keyT (dA v.a) f))) [keyT (dA v.a) f l[i]]:=by rw[n,nC]
 have B:keyT (dA v.a) f l[i]∈addS (addS [] ((l.take i).map (keyT (dA v.a) f))) [keyT (dA v.a) f l[i]]:=gR (by simp);have C:(idN (addS (addS [] ((l.take i).map (keyT (dA v.a) f))) [keyT (dA v.a) f l[i]]) (keyT (dA v.a) f l[i]))=g l[i]:=by
  rw[<-Y];have H:ksF (dA v.a) l f=addS (addS [] ((l.take (i+1)).map (keyT (dA v.a) f))) ((l.drop (i+1)).map (keyT (dA v.a) f)):=by rw[<-nC,<-GM,IM];rfl
  obtain⟨r,F⟩:=eG ((l.drop (i+1)).map (keyT (dA v.a) f)) (addS [] ((l.take (i+1)).map (keyT (dA v.a) f)));rw[j]at H F;show _=idN (ksF (dA v.a) l f) (keyT (dA v.a) f l[i]);rw[H,F,pT r B]
 have p:=sE (N:=v.nx.length) (f:=g) o;have y:=λ(K:KV) (E:KF) D=>Fr (K:=K) (again2:=again2) (again3:=E) h Z (nw:=clL v.nx.length (l.take i) g) (ks:=addS [] ((l.take i).map (keyT (dA v.a) f))) (c:=c) o x (by omega) D;rw[e1];simp only[Gs,GP];rw[e2,w,x];refine⟨⟨by omega,by omega⟩,M,⟨by omega,by omega⟩,L,.dat (aN _),.dat (aK _),ab _,ab _,ab _,gS _,ab [_],y _ _ ?_⟩;refine⟨m-1,by omega,i+1,?_,?_,by omega⟩;rw[bq];rw[C,p,j];have d:=odf d;obtain rfl:i=l.length:=by omega
 have ek:addS [] ((l.take l.length).map (keyT (dA v.a) f))=ksF (dA v.a) l f:=by rw[Hh];rfl
 rw[ek,wX,Hh,bq];refine Sp.intro (λe=>?_) (λe=>?_);have e:=odt e;refine⟨⟨.dat (aN _),.dat (aK _),ab _,ab _,aH _,aC _,ab _,ab _,⟨⟨rfl,rfl⟩,⟨by rw[ah],by rw[ah,bq]⟩,hY (by omega)⟩⟩,?_⟩;refine(end_le Q v (clL v.nx.length l f) (clL v.nx.length l g) (ksF (dA v.a) l f)).mpr ?_;exact⟨aC _,aH _,hQ⟩;have e:=odf e;refine⟨.dat (aN _),.dat (aK _),ab _,ab _,?_⟩;exact hN (by omega)
theorem zW{δ :Nat->Nat->Nat}{nb:Nat}(a:c=(dd (l.map f)).length∨c=0/\l≠[])(e:¬ cntM δ nb l f=c):c<cntM δ nb l f:=by
 rcases a with a|⟨a,g⟩;have:=ct (l:=dd (l.map f)) (m:=(dd (l.map (keyM δ nb f))).map (·.1)) (mZ _) λk d=>by obtain⟨s,b,rfl⟩:=Gv.1 (dd_mem.1 d);exact Gv.2 ⟨keyM δ nb f s,dd_mem.2 (Gv.2 ⟨s,b,rfl⟩),rfl⟩
 rw[Gu]at this;unfold cntM at e ⊢;omega;omega
theorem Bp(l:Lg)(f:Nat->Nat):(dd (l.map f)).length<=l.length:=by have:=ct (l:=dd (l.map f)) (m:=l.map f) (mZ _) λk a=>dd_mem.1 a;rwa[Gu]at this
theorem Ft{Q:Value->AH->Prop}(h:LeOk v l)(K:Q (leV v.ra.length v.rn.length) (hM0 v.ra v.rn)){R:(Nat->Nat)×Nat}(J:rndM (dA v.a) 256 l 90003 (ac01 (acN v.acc)) 0=R)
 (C:v.Pn (auV v.a) (inV v.q) (inV (clL v.nx.length l R.1)) (R.2:Int)):
 LAtZ (XE v) 1 nLe ⟨.leaf,0⟩ bLe pE2 (iH (endF env ⟨.leaf,0⟩ [] [] [] Q)) (frE2 v.q.length v.nx.length 0) (hE1 v (clL v.nx.length l (ac01 (acN v.acc)))):=by
 have F:=h.l1;have D:v.nx.length<=90000:=h.ok.n1;have l2:=aL v.nx;refine LAtZ.stepF h.X [] [] [] slE2 (by kernel_rfl) (λm G A=>∃ (f:Nat->Nat) (c:Nat),G=frE2 v.q.length v.nx.length c/\A=hE1 v (clL v.nx.length l f)/\(∀s∈l,f s<=90000)/\(c=(dd (l.map f)).length∨c=0/\l≠[])/\l.length+2<=m+c/\rndM (dA v.a) 256 l m f c=R) ?_ (k:=90003) ⟨ac01 (acN v.acc),0,rfl,rfl,λs _=>by unfold ac01;split<;>omega,.inr ⟨rfl,h.ne⟩,by omega,J⟩;rintro m G A ⟨f,c,rfl,rfl,y,r,E,d⟩;have z:c<=l.length:=by rcases r with r|⟨r,_⟩;rw[r];exact Bp l f;omega
 obtain⟨i,rfl⟩:∃ i,m=i+1:=⟨m-1,by omega⟩;have B:∀ s∈l,f s<1679616:=λs n=>by have:=y s n;omega
 have g:∀ s∈l,∀b,b<256->dA v.a s b∈l:=h.cls;have o:(ksF (dA v.a) l f).length=cntM (dA v.a) 256 l f:=by rw[ksF_T];exact cntT B g
 have w:clL v.nx.length l (λs=>idN (ksF (dA v.a) l f) (keyT (dA v.a) f s))=clL v.nx.length l (cI (dA v.a) 256 l f):=xn λs n=>by rw[rU,ksF_T];exact nextT B g s n
 have p:=bq v.nx.length l f;have j:=λ(x:KF) I L=>Fs (Q:=Q) (again2:=x) h y (c:=c) K I L;rw[w,o]at j;have u:=jE2_nf (endF env ⟨.leaf,0⟩ [] [] [] Q) (λM N=>∃ t,t<i+1/\∃ (f:Nat->Nat) (c:Nat),M=frE2 v.q.length v.nx.length c/\N=hE1 v (clL v.nx.length l f)/\(∀s∈l,f s<=90000)/\(c=(dd (l.map f)).length∨c=0/\l≠[])/\l.length+2<=t+c/\rndM (dA v.a) 256 l t f c=R) v (clL v.nx.length l f) c;unfold jE2 at u;rw[p]at u;refine u.mpr ?_;rw[l2];simp only[Gs];rw[e7];refine⟨⟨by omega,by omega,by omega,by omega⟩,.dat (aN _),.dat (aK _),ab _,ab _,ab _,gS (mkM ([]:List LB)),j _ (λe=>?_) (λe=>?_)⟩;have d:(if cntM (dA v.a) 256 l f=c then(cI (dA v.a) 256 l f,c)else rndM (dA v.a) 256 l i (cI (dA v.a) 256 l f) (cntM (dA v.a) 256 l f))=R:=d;rw[E' e]at d;rw[<-d]at C;exact C;have d:(if cntM (dA v.a) 256 l f=c then(cI (dA v.a) 256 l f,c)else rndM (dA v.a) 256 l i (cI (dA v.a) 256 l f) (cntM (dA v.a) 256 l f))=R:=d;rw[C' e]at d;have H:=zW r e;refine⟨i,by omega,cI (dA v.a) 256 l f,cntM (dA v.a) 256 l f,rfl,rfl,λs n=>?_,.inl cntM_next.symm,by omega,d⟩;have P:cI (dA v.a) 256 l f s<cntM (dA v.a) 256 l f:=oz (dd_mem.2 (Gv.2 ⟨s,n,rfl⟩));have O:cntM (dA v.a) 256 l f<=l.length:=FK;omega
def rfE(a:AU):(Nat->Nat)×Nat:=rndM (dA a) 256 (rfL (dA a) a.1.toNat) 90003 (ac01 (acN a.2.1)) 0
theorem CM{δ :Nat->Nat->Nat}{acc:Nat->Bool}(g:∀ s∈l,∀b, δ s b∈l)(d:l≠[]){F:Nat}(o:l.length+2<=F){R:(Nat->Nat)×Nat}(m:rndM δ 256 l F (ac01 acc) 0=R):(∀s∈l,R.1 s<R.2)/\R.2=(dd (l.map R.1)).length:=by
 obtain⟨_,i,h⟩:=pu (δ := δ) (nb:=256) (l:=l) (acc:=acc) (λs a b _=>g s a b) F (cl:=ac01 acc) (c:=0) (λs _ t _ e=>by
  have:=e [] (λc k=>by cases k);unfold ac01;have n:acc s=acc t:=this;rw[n]) (λs _ t _ e=>by
  unfold ac01 at e;cases a:acc s<;>cases j:acc t<;>simp[a,j]at e ⊢) (.inr ⟨rfl,d⟩) (by omega)
 rw[m]at i h;exact⟨i,h⟩
theorem rfE_nm{a:AU}(h:OkL a):NmOk a (rfL (dA a) a.1.toNat) (clL a.2.2.length (rfL (dA a) a.1.toNat) (rfE a).1) (rfE a).2 (rfE a).1:=by
 have j:=RAL.of h;have r:=j.len;have u:=h.n1;have q:=j.mem;obtain⟨t,z⟩:=CM (acc:=acN a.2.1) (λs d b=>j.cl s d b) (I1 q) (F:=90003) (by omega) (R:=rfE a) (by unfold rfE;exact HD _);generalize rfE a=R at*;have i:=j.ei.inp;have p:=j.cl;generalize rfL (dA a) a.1.toNat=l at*;have y:=Bp l R.1;refine⟨h,bq _ _ _,λs d=>sF (i s d) d,λs d=>⟨i s d,t s d⟩,λk w=>?_,λs d b _=>p s d b,q,by omega,by omega⟩;have n:(dd (l.map R.1)).Nodup:=mZ _;have d:∀ x∈dd (l.map R.1),x∈List.range R.2:=λx g=>by obtain⟨s,d,rfl⟩:=Gv.1 (dd_mem.1 g);exact Hv.2 (t s d)
 have o:k∈dd (l.map R.1):=by
  rcases Classical.em (k∈dd (l.map R.1))with h|h;exact h;exfalso;have:=ct (l:=k::dd (l.map R.1)) (m:=List.range R.2) (HB.2 ⟨h,n⟩) λx g=>by rcases Gz.1 g with rfl|g;exact Hv.2 w;exact d x g
  rw[GR,Hg]at this;omega
 obtain⟨s,d,e⟩:=Gv.1 (dd_mem.1 o);exact⟨s,d,e⟩
end
end Go.T9
set_option maxHeartbeats 400000
namespace Go.T9
open Go Go.AM Go.MK Go.HK Go.Proofs.Tryz
noncomputable section
def reA(a:AU):Li:=rfA (dA a) (acN a.2.1) a.1.toNat
def reR(a:AU):La:=(rfT (dA a) (acN a.2.1) a.1.toNat).map inF
def leP(a:AU)(L:Lg)(R:(Nat->Nat)×Nat):Value->Lh->Lh->Int->Prop:=λu l1 l2 m=>∃ cl,NmOk a L cl R.2 R.1/\u=auV a/\l1=inV (inF L)/\l2=inV cl/\m=(R.2:Int)
def leO(a:AU)(L:Lg)(R:(Nat->Nat)×Nat)(ra:Li)(rn:La):LE:=⟨λu=>u=auV a,inF L,leP a L R,ra,rn,a.1,a.2.1,a.2.2⟩
theorem leO_ok{a:AU}{L:Lg}{R:(Nat->Nat)×Nat}{g:Li}{f:La}(h:OkL a)(t1:∀ args A p v A',frmR noAr (spMt (λu=>u=auV a) (inF L)) args A=some (p,v,A')->PH p->CallAt env 42 args A v A')
 (i:∀ args A p v A',frmR noAr (spNu (leP a L R) g f) args A=some (p,v,A')->PH p->CallAt env 44 args A v A') (d:∀ s∈L,s<a.2.2.length) (e:∀ s∈L,∀b,dA a s b∈L) (c:L≠[]) (k:L.length<=90000):LeOk (leO a L R g f) L:=
 ⟨⟨am,aE,ap,.cons t1 (.cons kt_tab (.cons i .nil))⟩,rfl,h,d,λs j b _=>e s j b,c,k⟩
theorem le_gen{a:AU}{L:Lg}{R:(Nat->Nat)×Nat}{c:Li}{b:La}(h:OkL a)(g:LeOk (leO a L R c b) L)(f:NmOk a L (clL a.2.2.length L R.1) R.2 R.1)(l:rndM (dA a) 256 L 90003 (ac01 (acN a.2.1)) 0=R):WalkF env f24 [auV a] ⟨.leaf,0⟩ (leV c.length b.length) (hM0 c b):=by have j:=h.n1;have l2:=aL a.2.2;have i:=Fu (K:=endF env ⟨.leaf,0⟩ [] [] [] λv1 e=>v1=leV c.length b.length/\e=hM0 c b) g (Ft (Q:=λv1 e=>v1=leV c.length b.length/\e=hM0 c b) g ⟨rfl,rfl⟩ (R:=R) l ⟨_,f,rfl,rfl,rfl,rfl⟩);have k:=jLe_nf (endF env ⟨.leaf,0⟩ [] [] [] λv1 e=>v1=leV c.length b.length/\e=hM0 c b) (leO a L R c b);refine aJ g.X (d:=1) (ns:=[]) (zs:=[]) (ws:=[]) (Eq.mpr k ?_);have ev:(leO a L R c b).nx=a.2.2:=rfl;rw[ev,l2];rw[ev]at i;simp only[Gs];rw[e7];refine⟨⟨.dat (aN _),.dat (aK _),ab _,rfl⟩,⟨by omega,by omega,by omega,by omega⟩,.dat (aN _),.dat (aK _),ab _,ab _,?_⟩;exact i
theorem Dg{a:AU}(h:OkL a):WalkF env f24 [auV a] ⟨.leaf,0⟩ (leV (reA a).length (reR a).length) (hM0 (reA a) (reR a)):=by
 have d:=RAL.of h;have k:=d.len;have p:=h.n1;have c:=rfE_nm h;have m:rfC (dA a) (acN a.2.1) a.1.toNat=(rfE a).1:=by unfold rfC rfE;exact HD _
 have q:rndM (dA a) 256 (rfL (dA a) a.1.toNat) 90003 (ac01 (acN a.2.1)) 0=rfE a:=by unfold rfE;exact HD _
 have b:=nu_rf (a:=a) (n:=(rfE a).2) (cl:=clL a.2.2.length (rfL (dA a) a.1.toNat) (rfE a).1);rw[m]at b;have b:=b c;have j:=nu_tab (a:=a) (l:=rfL (dA a) a.1.toNat) (n:=(rfE a).2) (f:=(rfE a).1);rw[b.1,b.2]at j;have o:=mt_tab h;have g:=d.ei.inp;have i:=d.cl;have e:=I1 d.mem;show WalkF env _ _ _ (leV (rfA (dA a) (acN a.2.1) a.1.toNat).length ((rfT (dA a) (acN a.2.1) a.1.toNat).map inF).length) (hM0 (rfA (dA a) (acN a.2.1) a.1.toNat) ((rfT (dA a) (acN a.2.1) a.1.toNat).map inF));clear b m;generalize rfA (dA a) (acN a.2.1) a.1.toNat=ra at*;generalize (rfT (dA a) (acN a.2.1) a.1.toNat).map inF=rn at*;generalize rfE a=R at*;generalize rfL (dA a) a.1.toNat=L at*;exact le_gen h (leO_ok h o j g i e (by omega)) c q
def spLe(P:Value->Prop)(ra:Li)(rn:La):Lh->List AObj->Option (Ll×Value×List AObj)
 | [u],[]=>some (some (P u),leV ra.length rn.length,[groB ra,groR rn])
 |_,_=>none
theorem le_tab{a:AU}(h:OkL a):∀ args A p v A',frmR noAr (spLe (λu=>u=auV a) (reA a) (reR a)) args A=some (p,v,A')->PH p->CallAt env 24 args A v A':=be am (fn:=f24) rfl λargs d p v c b e=>by unfold spLe at b;split at b;rename_i u;cases b;obtain rfl:u=auV a:=e;have:=Dg h;rw[<-we]at this;exact this;cases b
theorem Di:∀ args A p v A',frmR noAr (spLe (λ_=>False) [] []) args A=some (p,v,A')->PH p->CallAt env 24 args A v A':=be am (fn:=f24) rfl λargs c p v b a d=>by unfold spLe at a;split at a;cases a;exact False.elim d;cases a
def XRr(P:Value->Prop)(ra:Li)(rn:La):SX:=⟨env,[(6,bD caP caX),(29,bD ruP ruX),(24,frmR noAr (spLe P ra rn))],noEl,λ_=>.unroll 0⟩
def jFr(K:KV)(P:Value->Prop)(ra:Li)(rn:La)(s:Int)(acc:Li)(nx:La)(t:ByteArray):Prop:=bh (XRr P ra rn) 2 f12 [.agg ⟨[.int .i64 s,dat 1 (blV acc),dat 1 (roV nx)]⟩,.string t] ⟨.leaf,0⟩ K
end
end Go.T9
