/- A part of the proof. -/
import Derived.Test.YtegefclhhjbfhaaGreatDoorY2
set_option linter.unusedVariables false
set_option linter.unusedSimpArgs false
set_option maxRecDepth 1000000
set_option maxHeartbeats 400000
namespace Go.T9
open Go Go.AM Go.MK Go.HK
noncomputable section
variable {O:AU}{P:Int->Lh->Lh->Prop}{L q:Le}{i n:Nat}
structure OdOk (O:AU) (od:Lg) (n:Nat):Prop where
 ok:OkL O
 hn:O.2.2.length=n
 nd:od.Nodup
 lt:∀ k∈od,k<n
 cl:∀ k∈od,∀b,b<256->dA O k b∈od
theorem OdOk.le{od:Lg}(h:OdOk O od n):od.length<=n/\n<=90000:=by have:=cB n od h.nd h.lt;have b:=h.ok.n1;have a:=h.hn;exact⟨this,by omega⟩
def posL(n:Nat)(od:Lg)(i:Nat):Le:=(List.range n).map λk=>(((if k∈od.take i then idN od k else 0:Nat)):Int)
theorem cA(n:Nat)(od:Lg)(i:Nat):(posL n od i).length=n:=by unfold posL;grind
theorem py{od:Lg}{k:Nat}(h:k<n):∃ a:k<(posL n od i).length,(posL n od i)[k]=((if k∈od.take i then idN od k else 0:Nat):Int):=by grind [cA,posL,JL,JW]
theorem posL_0(n:Nat)(od:Lg):posL n od 0=List.replicate n 0:=by unfold posL;rw[Kb];refine⟨by simp,λx a=>?_⟩;obtain⟨k,_,rfl⟩:=Hn.1 a;simp
theorem yQ{od:Lg}(f:od.Nodup)(d:∀ k∈od,k<n)(a:i<od.length):(posL n od i).set od[i] (i:Nat)=posL n od (i+1):=by
 have c:=d _ (Hq a);refine JM (by rw[Hz,cA,cA]) λk b h=>?_;rw[Hz,cA]at b;obtain⟨l,o⟩:=py (n:=n) (od:=od) (i:=i) b;obtain⟨j,m⟩:=py (n:=n) (od:=od) (i:=i+1) b;have g:k∈od.take (i+1)↔k∈od.take i∨k=od[i]:=by rw[HC a,H3,Ie]
 have e:=mF f i a;grind
theorem zh{K:KV}(s:(XNu P q).Ok){cl:Le}{od:Lg}(h:OdOk O od n)
 (f:LAtZ (XNu P q) 1 nNu (hNu0 L cl) bNu pN5 (cu K) (frN5 (inF od).length n 0) (hN5 L cl O.1 O.2.1 O.2.2 (inF od) (posL n od od.length) [] [])):
 LAtZ (XNu P q) 1 nNu (hNu0 L cl) bNu pN4 (cu K) (frN4 (inF od).length n 0) (hN4 L cl O.1 O.2.1 O.2.2 (inF od) (List.replicate n 0)):=by
 obtain⟨p,o⟩:=h.le;have a:=ao od;refine LAtZ.stepF s [] [] [] slN4 (by kernel_rfl) (λm G A=>∃ i:Nat,G=frN4 (inF od).length (posL n od i).length i/\A=hN4 L cl O.1 O.2.1 O.2.2 (inF od) (posL n od i)/\i+m=od.length) ?_ (k:=od.length) ⟨0,by rw[cA],by rw[posL_0],by omega⟩;rintro m G A ⟨i,rfl,rfl,r⟩;have e:=cA n od i;refine(jN4_nf _ _ P q L cl O.1 O.2.1 O.2.2 (inF od) (posL n od i) i).mpr (Sp.intro (λc=>?_) (λc=>?_));have c:=odt c;rw[a]at c;have d:i<od.length:=by omega
 have b:i<(inF od).length:=by omega
 have t:aa (inV (inF od)) (i:Int)=(od[i]:Nat):=by rw[aA b,bD d]
 have g:nth (inV (inF od)) i=some (Vi (od[i]:Nat)):=by rw[aL b,bD d]
 have l:=h.lt _ (Hq d);have j:=yQ h.nd h.lt d;generalize od[i]=x at*;rw[t];simp only[D',HN];rw[bz,j,aF (x:=(i:Int)+1) (by omega) (by omega)];refine⟨⟨by omega,by omega⟩,g,⟨by omega,by omega⟩,by rw[af];omega,ab _,ab _,ab _,ab _,au _,aw _,m-1,by omega,i+1,?_,rfl,by omega⟩;rw[cA,cA];rfl;have c:=odf c;rw[a]at c;obtain rfl:i=od.length:=by omega
 refine⟨ab _,ab _,ab _,ab _,au _,aw _,au [],aw [],?_⟩;rw[e];exact f
theorem OdOk.pos{od:Lg}(h:OdOk O od n){k:Nat}(a:k∈od):∃ b:k<(posL n od od.length).length,(posL n od od.length)[k]=(idN od k:Nat):=by obtain⟨b,c⟩:=py (n:=n) (od:=od) (i:=od.length) (h.lt _ a);grind
theorem zf{K:KV}{again2:KF}(X:(XNu P q).Ok){cl:Le}{od:Lg}(h:OdOk O od n)(v:i<od.length){f:Li}{d:La}(ha:f.length<=90000)(hn:d.length<=90000)
 (a:again2 (frN5 (inF od).length n (i+1)) (hN5 L cl O.1 O.2.1 O.2.2 (inF od) (posL n od od.length) (f++[acN O.2.1 od[i]]) (d++[inF ((scR (dA O) od[i]).map (idN od))]))):
 LAtZ (XNu P q) 1 nNu (hNu0 L cl) (an (subC pN5 bNu)) pN6 (kN5 K again2 P q L cl) (frN6 (inF od).length n i 256 0) (hN6 L cl O.1 O.2.1 O.2.2 (inF od) (posL n od od.length) f d (List.replicate 256 0)):=by
 obtain⟨Q,N⟩:=h.le;have M:=ao od;have o:=cA n od od.length;have p:i<(inF od).length:=by omega
 have e:=Hq v;have D:aa (inV (inF od)) (i:Int)=(od[i]:Nat):=by rw[aA p,bD v]
 have C:nth (inV (inF od)) i=some (Vi (od[i]:Nat)):=by rw[aL p,bD v]
 have w:=h.cl _ e;have r:od[i]<O.2.2.length:=by rw[h.hn];exact h.lt _ e
 have S:=h.ok.acc;have R:=h.hn;have t:(scR (dA O) od[i]).map (idN od)=(List.range 256).map λc=>idN od (dA O od[i] c):=by unfold scR;rw[H4];rfl
 rw[t]at a;generalize od[i]=x at*;have l:=fun {k:Nat}(hk:k∈od)=>h.pos hk;generalize posL n od od.length=nb at*;refine LAtZ.stepF X [] [] [] slN6 (by kernel_rfl) (λm G A=>∃ b:Nat,G=frN6 (inF od).length nb.length i (rowF (λc=>idN od (dA O x c)) b).length b/\A=hN6 L cl O.1 O.2.1 O.2.2 (inF od) nb f d (rowF (λc=>idN od (dA O x c)) b)/\b+m=256) ?_ (k:=256) ⟨0,by rw[o];rfl,rfl,rfl⟩;rintro m G A ⟨b,rfl,rfl,U⟩;have j:=jc (λc=>idN od (dA O x c)) (b:=b) (by omega);refine(jN6_nf _ _ _ P q L cl O.1 O.2.1 O.2.2 (inF od) nb f d i (rowF (λc=>idN od (dA O x c)) b) b).mpr (Sp.intro (λc=>?_) (λc=>?_));have c:=odt c;have y:b<256:=by omega
 obtain⟨s1,B,s3⟩:=h.ok.at' r y;have u:=w b y;obtain⟨F,E⟩:=l u;have z:ae (roV O.2.2) (x:Int)=inV O.2.2[x]:=bL r;have s:nth (roV O.2.2) x=some (Vd 1 (inV O.2.2[x])):=cG r;have e3:aa (inV O.2.2[x]) (b:Int)=(dA O x b:Nat):=by rw[aA s1,B]
 have I:nth (inV O.2.2[x]) b=some (Vi (dA O x b:Nat)):=by rw[aL s1,B]
 have Z:aa (inV nb) ((dA O x b:Nat):Int)=(idN od (dA O x b):Nat):=by rw[aA F,E]
 have H:nth (inV nb) (dA O x b)=some (Vi (idN od (dA O x b):Nat)):=by rw[aL F,E]
 have J:(inV O.2.2[x]).length=O.2.2[x].length:=af _;have g:=qQ (λc=>idN od (dA O x c)) y;rw[D];simp only[D',HN];rw[z,e3,J];simp only[D',HN];rw[Z,bz,g,j,aF (x:=(b:Int)+1) (by omega) (by omega)];refine⟨⟨by omega,by omega⟩,C,⟨by omega,by omega⟩,s,⟨by omega,by omega⟩,I,⟨by omega,by omega⟩,H,⟨by omega,by omega⟩,by rw[af,j];omega,ab _,ab _,ab _,ab _,ab _,au _,aw _,au _,aw _,m-1,by omega,b+1,?_,rfl,by omega⟩;rw[jc _ (by omega)];rfl;have c:=odf c;obtain rfl:b=256:=by omega
 have V:x<O.2.1.length:=by omega
 have z:az (blV O.2.1) (x:Int)=acN O.2.1 x:=by grind [bw,acN,gD]
 have s:nth (blV O.2.1) x=some (.bool (acN O.2.1 x)):=by grind [dj,acN,gD]
 rw[D];simp only[D',HN];rw[z,iM,qR,aF (x:=(i:Int)+1) (by omega) (by omega)];refine⟨⟨rfl,by rw[aG],by omega,by omega⟩,⟨by omega,by omega⟩,C,⟨by omega,by omega⟩,s,⟨rfl,by rw[aT],by omega,by omega⟩,by rw[af],ab _,ab _,ab _,ab _,au _,aw _,au _,?_,?_⟩;exact(cR d _)▸aw _;have Y:roV d++[Vd 1 (inV (inF ((List.range 256).map λc=>idN od (dA O x c))))]=roV (d++[inF ((List.range 256).map λc=>idN od (dA O x c))]):=cR _ _;rw[Y,o];unfold hN5 at a;rw[E',E']at a;exact a
def nuA(O:AU)(a:Lg):Li:=a.map (acN O.2.1)
def nuR(O:AU)(a:Lg):La:=a.map λk=>inF ((scR (dA O) k).map (idN a))
def nuV(n m:Nat):Value:=.agg ⟨[.int .i64 0,groS 2 n,groS 3 m]⟩
def hNuE(L cl:Le)(a:Li)(b:La):AH:=⟨(Nd (Nd (Nd Lf (some (groR b)) Lf) (some (groI cl)) Lf) (some (groI L)) (Nd Lf (some (groB a)) Lf)),4⟩
def hNuF(L g:Le)(e:Int)(d:Li)(c:La)(f h:Le)(a:Li)(b:La):AH:=⟨(Nd (Nd (Nd (Nd Lf (some (groB d)) Lf) (some (.cells [.int .i64 e,groS 7 d.length,groS 8 c.length] 25)) Lf) (some (groI g)) (Nd (Nd Lf (some (groB a)) Lf) (some (groI h)) Lf)) (some (groI L)) (Nd (Nd (Nd Lf (some (groR c)) Lf) (some (groI f)) Lf) (some (.cells [.int .i64 0,groS 9 a.length,groS 10 b.length] 25)) (Nd (Nd Lf (some (groR b)) Lf) (some (.cells [.int .i64 0,groS 9 a.length,groS 10 b.length] 25)) Lf))),11⟩
theorem end_nu(Q:Value->AH->Prop)(L c:Le)(d:Int)(h:Li)(f:La)(e g:Le)(a:Li)(b:La):endF env (hNu0 L c) [] [] [] Q (.agg ⟨[.int .i64 0,groS 9 a.length,groS 10 b.length]⟩) (hNuF L c d h f e g a b)=(HF (.agg ⟨inV L⟩)/\HF (.agg ⟨inV c⟩)/\HF (.agg ⟨blV a⟩)/\HF (.agg ⟨roV b⟩)/\Q (nuV a.length b.length) (hNuE L c a b)):=by kernel_rfl
theorem zg{Q:Value->AH->Prop}(j:(XNu P q).Ok){cl:Le}{od:Lg}(h:OdOk O od n)(w:Q (nuV (nuA O od).length (nuR O od).length) (hNuE L cl (nuA O od) (nuR O od))):
 LAtZ (XNu P q) 1 nNu (hNu0 L cl) bNu pN5 (cu (endF env (hNu0 L cl) [] [] [] Q)) (frN5 (inF od).length n 0) (hN5 L cl O.1 O.2.1 O.2.2 (inF od) (posL n od od.length) [] []):=by
 obtain⟨o,l⟩:=h.le;have a:=ao od;have b:=cA n od od.length;refine LAtZ.stepF j nsN5 [.cell 18 2] [] slN5 (by kernel_rfl) (λm G A=>∃ i:Nat,G=frN5 (inF od).length n i/\A=hN5 L cl O.1 O.2.1 O.2.2 (inF od) (posL n od od.length) ((od.take i).map (acN O.2.1)) ((od.take i).map λk=>inF ((scR (dA O) k).map (idN od)))/\i+m=od.length) ?_ (k:=od.length) ⟨0,rfl,rfl,by omega⟩;rintro m G A ⟨i,rfl,rfl,p⟩;have f:((od.take i).map (acN O.2.1)).length=i:=by grind
 have e:((od.take i).map λk=>inF ((scR (dA O) k).map (idN od))).length=i:=by grind
 have d:=jN5_nf (endF env (hNu0 L cl) [] [] [] Q) (λu v=>∃ g,g<m/\∃ i:Nat,u=frN5 (inF od).length n i/\v=hN5 L cl O.1 O.2.1 O.2.2 (inF od) (posL n od od.length) ((od.take i).map (acN O.2.1)) ((od.take i).map λk=>inF ((scR (dA O) k).map (idN od)))/\i+g=od.length) P q L cl O.1 O.2.1 O.2.2 (inF od) (posL n od od.length) ((od.take i).map (acN O.2.1)) ((od.take i).map λk=>inF ((scR (dA O) k).map (idN od))) i;unfold jN5 at d;rw[b]at d;refine d.mpr (Sp.intro (λc=>?_) (λc=>?_));have c:=odt c;rw[a]at c;have r:i<od.length:=by omega
 refine⟨⟨by omega,by omega,by omega,by omega⟩,ab _,ab _,ab _,ab _,ym,au _,aw _,au _,aw _,?_⟩;refine zf j h r (by rw[f];omega) (by rw[e];omega) ?_;refine⟨m-1,by omega,i+1,rfl,?_,by omega⟩;grind [HC,HD];have c:=odf c;rw[a]at c;obtain rfl:i=od.length:=by omega
 have t:(od.take od.length).map (acN O.2.1)=nuA O od:=by rw[HX];rfl
 have s:((od.take od.length).map λk=>inF ((scR (dA O) k).map (idN od)))=nuR O od:=by rw[HX];rfl
 rw[t,s];refine(end_nu Q L cl O.1 O.2.1 O.2.2 (inF od) (posL n od od.length) (nuA O od) (nuR O od)).mpr ?_;grind [ab,au,aw]
end
end Go.T9
namespace Go.T9
open Go Go.AM Go.MK Go.HK Go.Proofs.Tryz
noncomputable section
theorem _root_.Go.JQ:type_of% @List.getElem?_range:=@List.getElem?_range
variable {l:Lg}{N i n:Nat}
theorem HF_zM(n:Nat):HF (.agg ⟨List.replicate n (Vi 0)⟩):=by rw[dE];exact ab _
def odL(O:AU):Lg:=rfL (dA O) O.1.toNat
theorem NmOk.od{a:AU}{cl:Le}{f:Nat->Nat}(h:NmOk a l cl n f):OdOk (clA a l n f) (odL (clA a l n f)) n:=by have d:=RAL.of h.okL;have e:=(xJ a l n f).1;refine⟨h.okL,e,d.ei.nd,λk c=>?_,λk c b _=>d.cl k c b⟩;have:=d.ei.inp k c;omega
theorem Ds{a:AU}{cl:Le}{f:Nat->Nat}(h:NmOk a l cl n f):WalkF env f55 [auV a,groS 0 (inF l).length,groS 1 cl.length,.int .i64 (n:Int)] (hNu0 (inF l) cl) (nuV (nuA (clA a l n f) (odL (clA a l n f))).length (nuR (clA a l n f) (odL (clA a l n f))).length) (hNuE (inF l) cl (nuA (clA a l n f) (odL (clA a l n f))) (nuR (clA a l n f) (odL (clA a l n f)))):=by have g:=XNu_ok h.okL;have e:=h.od;have j:(clA a l n f).1=((f a.1.toNat:Nat):Int):=rfl;have m:=h.n1;have o:=h.l1;have k:=λ(K:KV) b=>zk (K:=K) g h b;have s:=λ(K:KV) b=>zj (K:=K) g h (c0:=(clA a l n f).1) ⟨rfl,rfl,rfl⟩ b;have r:=λ(K:KV) b=>zh (K:=K) (L:=inF l) (cl:=cl) g e b;have q:=λ(Q:Value->AH->Prop) (p:Q (nuV (nuA (clA a l n f) (odL (clA a l n f))).length (nuR (clA a l n f) (odL (clA a l n f))).length) (hNuE (inF l) cl (nuA (clA a l n f) (odL (clA a l n f))) (nuR (clA a l n f) (odL (clA a l n f)))))=>zg (Q:=Q) (L:=inF l) (cl:=cl) g e p;rw[<-j]at k;unfold odL at*;generalize rfL (dA (clA a l n f)) (clA a l n f).1.toNat=od at*;generalize clA a l n f=O at*;generalize nuA O od=ra at*;generalize nuR O od=rn at*;refine aC g (d:=1) (ns:=[]) (zs:=[]) (ws:=[]) ((jNu_nf _ _ (inF od) (inF l) cl n a.1 a.2.1 a.2.2).mpr ?_);rw[D',ao,aF (x:=(l.length:Int)-1) (by omega) (by omega)];refine⟨⟨by omega,by omega,by omega,by omega⟩,ab _,ab _,.dat (ax _),.dat (aq _),HF_zM n,?_⟩;have c:=k _ (s _ (r _ (q (λv1 t=>v1=nuV ra.length rn.length/\t=hNuE (inF l) cl ra rn) ⟨rfl,rfl⟩)));rw[GX,ao,HZ]at c;rw[dE];unfold hN1 groI at c;exact c
def spNu(P:Value->Lh->Lh->Int->Prop)(ra:Li)(rn:La):Lh->List AObj->Option (Ll×Value×List AObj)
 | [u,.slice (some ⟨B1,o1,none⟩) n1 k1,.slice (some ⟨B2,o2,none⟩) n2 k2,.int .i64 n],[.gro l1 t1 e1,.gro l2 t2 e2]=>
   bif ((Nat.beq B1 0&&Nat.beq o1 0)&&(Nat.beq B2 1&&Nat.beq o2 0))&&((Nat.beq k1 (unk+3+1)&&Nat.beq k2 (unk+3+1))&&(Nat.beq e1 3&&Nat.beq e2 3))then
    some (some ((t1=[]/\t2=[])/\(n1=l1.length/\n2=l2.length)/\P u l1 l2 n),nuV ra.length rn.length,[.gro l1 [] e1,.gro l2 [] e2,groB ra,groR rn])else none
 |_,_=>none
theorem zL(L cl:Le):aQ [groI L,groI cl]=hNu0 L cl:=by kernel_rfl
theorem zK(L a:Le)(b:Li)(c:La):aQ [groI L,groI a,groB b,groR c]=hNuE L a b c:=by kernel_rfl
theorem nu_tab{a:AU}{f:Nat->Nat}:∀ args A p v A',frmR noAr (spNu (λu c l2 m=>∃ cl,NmOk a l cl n f/\u=auV a/\c=inV (inF l)/\l2=inV cl/\m=(n:Int)) (nuA (clA a l n f) (odL (clA a l n f))) (nuR (clA a l n f) (odL (clA a l n f)))) args A=some (p,v,A')->PH p->CallAt env 55 args A v A':=aS ai (fn:=f55) rfl λargs e p v d b r=>by unfold spNu at b;split at b;rename_i u C t q x B s o w m c k z l2 j y;obtain⟨g,b⟩:=bl b;simp only[Hs]at b;obtain⟨rfl,rfl,rfl⟩:=b;simp only[f',Hy]at g;obtain⟨⟨⟨rfl,rfl⟩,rfl,rfl⟩,⟨rfl,rfl⟩,rfl,rfl⟩:=g;obtain⟨⟨rfl,rfl⟩,⟨rfl,rfl⟩,cl,h,rfl,rfl,rfl,rfl⟩:(k=[]/\j=[])/\(q=c.length/\o=l2.length)/\(∃cl,NmOk a l cl n f/\u=auV a/\c=inV (inF l)/\l2=inV cl/\m=(n:Int)):=r;rw[af,af];have:=Ds h;rw[<-zL,<-zK]at this;exact this;cases b
theorem nu_rf{a:AU}{cl:Le}(h:NmOk a (rfL (dA a) a.1.toNat) cl n (rfC (dA a) (acN a.2.1) a.1.toNat)):
 nuA (clA a (rfL (dA a) a.1.toNat) n (rfC (dA a) (acN a.2.1) a.1.toNat)) (odL (clA a (rfL (dA a) a.1.toNat) n (rfC (dA a) (acN a.2.1) a.1.toNat)))=rfA (dA a) (acN a.2.1) a.1.toNat/\
 nuR (clA a (rfL (dA a) a.1.toNat) n (rfC (dA a) (acN a.2.1) a.1.toNat)) (odL (clA a (rfL (dA a) a.1.toNat) n (rfC (dA a) (acN a.2.1) a.1.toNat)))=(rfT (dA a) (acN a.2.1) a.1.toNat).map inF:=by have e:odL (clA a (rfL (dA a) a.1.toNat) n (rfC (dA a) (acN a.2.1) a.1.toNat))=rfO (dA a) (acN a.2.1) a.1.toNat:=h.ord;have b:=h.od;rw[e]at b ⊢;have c:=b.lt;unfold rfA rfT tabK;refine⟨HQ λk d=>?_,?_⟩;have d:=c k d;show acN ((List.range n).map _) k=_;grind [acN,HY,HU,JQ];rw[H4];refine HQ λk d=>?_;show inF ((scR _ k).map _)=inF _;rw[h.dA (c k d)];exact Il inF (HQ λs _=>rR _ s)
noncomputable def nLe:Nat:=Func.ntmps f28
noncomputable def bLe:Code:=ay f28
def elLe:El:={elT [74,88,107] [33]with app:=true,gm:=λ_=>true,ml:=λ_ es k=>some (.int .i64 (mgS es k),mhS es k),mu:=λ_ es _ k v=>some (msS es k v,mnS es k v)}
def slE1:Lg:=[1,2,3,4,5]
def slE2:Lg:=[1,2,3,4,6]
def slE3:Lg:=[1,2,3,4,6,7,8,9]
def slE4:Lg:=[1,2,3,4,6,7,8,9,10,11]
def nsE4:List (NPos×TypeId×Nat):=[(.slot 10,3,1)]
def pE1:Lg:=[1,1,1,0,1,0]
def pE2:Lg:=[1,1,1,1,1,0,0]
def pE3:Lg:=[0,1,1,0,1,0]
def pE4:Lg:=[1,0,0,1,0,1,0]
def XLe(P:Value->Prop)(q:Le)(c:Value->Lh->Lh->Int->Prop)(a:Li)(b:La):SX:=⟨env,[(53,frmR noAr (spMt P q)),(54,frmR noAr spKt),(55,frmR noAr (spNu c a b))],elLe,λk=>bif Nat.beq k 4 then .autoN [] [] [] slE1 else bif Nat.beq k 9 then .autoN [] [] [] slE2 else bif Nat.beq k 12 then .autoN [] [] [] slE3 else .autoN nsE4 [] [] slE4⟩
structure LE where
 P:Value->Prop
 q:Le
 Pn:Value->Lh->Lh->Int->Prop
 ra:Li
 rn:La
 s:Int
 acc:Li
 nx:La
def XE(v:LE):SX:=XLe v.P v.q v.Pn v.ra v.rn
def iU(K:KV):KX:=finK env (f28.results).toList K
def FG(n m i:Nat):T Value:=(Nd (Nd (Nd Lf (some (groS 2 n)) Lf) (some (.pointer (some ⟨0,0,none⟩))) (Nd Lf (some (.int .i64 i)) Lf)) none (Nd (Nd Lf (some (groS 3 m)) Lf) (some (.pointer (some ⟨1,0,none⟩))) Lf))
def frE2(n m c:Nat):T Value:=(Nd (Nd (Nd Lf (some (groS 2 n)) Lf) (some (.pointer (some ⟨0,0,none⟩))) Lf) none (Nd (Nd Lf (some (groS 3 m)) Lf) (some (.pointer (some ⟨1,0,none⟩))) (Nd Lf (some (.int .i64 c)) Lf)))
def frE3(n m c k i:Nat):T Value:=(Nd (Nd (Nd (Nd Lf (some (groS 4 k)) Lf) (some (groS 2 n)) Lf) (some (.pointer (some ⟨0,0,none⟩))) (Nd (Nd Lf (some (.int .i64 i)) Lf) none Lf)) none (Nd (Nd (Nd Lf (some (.map (some 5))) Lf) (some (groS 3 m)) Lf) (some (.pointer (some ⟨1,0,none⟩))) (Nd Lf (some (.int .i64 c)) Lf)))
def frE4(n m c k i r b:Nat):T Value:=(Nd (Nd (Nd (Nd Lf (some (groS 4 k)) Lf) (some (groS 2 n)) (Nd Lf (some (.int .i64 b)) Lf)) (some (.pointer (some ⟨0,0,none⟩))) (Nd (Nd Lf (some (.int .i64 i)) Lf) none Lf)) none (Nd (Nd (Nd Lf (some (.map (some 5))) Lf) (some (groS 3 m)) Lf) (some (.pointer (some ⟨1,0,none⟩))) (Nd (Nd Lf (some (groS 6 r)) Lf) (some (.int .i64 c)) Lf)))
def hE1(v:LE)(a:Le):AH:=⟨(Nd (Nd (Nd Lf (some (groI a)) Lf) (some (.cells [.int .i64 0,nilS,nilS] 25)) Lf) (some (auC v.s v.acc v.nx)) (Nd Lf (some (groI v.q)) Lf)),4⟩
def hE3(v:LE)(b c:Le)(a:List LB):AH:=⟨(Nd (Nd (Nd Lf (some (groI b)) Lf) (some (.cells [.int .i64 0,nilS,nilS] 25)) (Nd Lf (some (.map (enS (mkM a)) a.length)) Lf)) (some (auC v.s v.acc v.nx)) (Nd (Nd Lf (some (groI c)) Lf) (some (groI v.q)) Lf)),6⟩
def hE4(v:LE)(b c:Le)(a:List LB)(r:Le):AH:=⟨(Nd (Nd (Nd Lf (some (groI b)) Lf) (some (.cells [.int .i64 0,nilS,nilS] 25)) (Nd Lf (some (.map (enS (mkM a)) a.length)) Lf)) (some (auC v.s v.acc v.nx)) (Nd (Nd Lf (some (groI c)) Lf) (some (groI v.q)) (Nd Lf (some (groI r)) Lf))),7⟩
def jLe(K:KV)(v:LE):Prop:=aN (XE v) 1 f28 [.agg ⟨[.int .i64 v.s,dat 1 (blV v.acc),dat 1 (roV v.nx)]⟩] ⟨.leaf,0⟩ K
def jE1(K:KV)(b:KF)(v:LE)(a:Le)(i:Nat):Prop:=aI (XE v) 1 nLe ⟨.leaf,0⟩ bLe pE1 (iU K) [] [] [] slE1 b (FG v.q.length a.length i) (hE1 v a)
def jE2(K:KV)(b:KF)(v:LE)(a:Le)(c:Nat):Prop:=aI (XE v) 1 nLe ⟨.leaf,0⟩ bLe pE2 (iU K) [] [] [] slE2 b (frE2 v.q.length a.length c) (hE1 v a)
noncomputable def kE2(K:KV)(a:KF)(v:LE):KX:=stepF (XE v) 1 nLe ⟨.leaf,0⟩ bLe pE2 (iU K) [] [] [] slE2 a
def jE3(K:KV)(f e:KF)(v:LE)(b a:Le)(d:List LB)(c i:Nat):Prop:=aI (XE v) 1 nLe ⟨.leaf,0⟩ (an (subC pE2 bLe)) pE3 (kE2 K f v) [] [] [] slE3 e (frE3 v.q.length b.length c a.length i) (hE3 v b a d)
noncomputable def kE3(K:KV)(b a:KF)(v:LE):KX:=stepF (XE v) 1 nLe ⟨.leaf,0⟩ (an (subC pE2 bLe)) pE3 (kE2 K b v) [] [] [] slE3 a
def jE4(K:KV)(h g f:KF)(v:LE)(d a:Le)(e:List LB)(c i:Nat)(r:Le)(b:Nat):Prop:=aI (XE v) 1 nLe ⟨.leaf,0⟩ (an (subC pE3 (an (subC pE2 bLe)))) pE4 (kE3 K h g v) nsE4 [] [] slE4 f (frE4 v.q.length d.length c a.length i r.length b) (hE4 v d a e r)
abbrev OB(a:La):Prop:=(0<=KY a/\KY a<=KY a/\KY a<=281474976710656/\8*Int.toNat (KY a)<=281474976710656)
theorem MI(K:KV)(v:LE):jLe K v=(HFs [P' v.acc,S_ v.nx,Lw v.q] (LE.P v (V_ v.s (blV v.acc) (roV v.nx)))/\OB v.nx/\U' v.acc/\LQ v.nx/\F_ v.q/\Kt (List.replicate (G_ (KY v.nx)) (Vi 0))/\LAtZ (XE v) 1 f28.ntmps (AH.mk Lf 0) (ay f28) [1,1,1,0,1,0] (finK (SX.E (XE v)) f28.results.toList K) (No (Ns (Ls 2 0 (k_ v.q)) i_ (Kx 0)) (Kw (Ls 3 0 (G_ (KY v.nx))) (c_ 1 0))) (K_ (Q_ (l_ (List.replicate (G_ (KY v.nx)) (Vi 0)) 3) [Vi 0,p_,p_] 25) (h_ v.s v.acc v.nx) (Lp v.q) 4)):=by kernel_rfl
theorem jLe_nf:type_of%(by have h:=@MI;revert h;delta OB b_ c_ d_ f_ g_ h_ i_ j_ k_ l_ m_ p_ F_ G_ K_ Q_ S_ V_ P' U' Kt Kw Kx KY Lp Ls Lw LQ;exact id):=@MI
abbrev Ot(a:Nat)(b:Le):Prop:=(0<=(a:Int)/\(a:Int)<j_ b)
theorem MJ(K:KV)(b:KF)(v:LE)(a:Le)(i:Nat):jE1 K b v a i=(Sp (decide ((i:Int)<j_ v.q)) (Ot i v.q/\nth (inV v.q) i=some (Vi (P_ v.q i))/\(0<=aa (inV v.q) i/\aa (inV v.q) (i:Int)<j_ (blV v.acc))/\nth (blV v.acc) (G_ (o_ (P_ v.q i)))=some (Lt (blV v.acc) (o_ (P_ v.q i)))/\Sp (az (blV v.acc) (o_ (P_ v.q i))) (Ot i v.q/\nth (inV v.q) i=some (Vi (P_ v.q i))/\Of v.q i a/\Int.toNat (s_ (inV v.q) i)<List.length (inV a)/\U' v.acc/\LQ v.nx/\F_ v.q/\Kt (List.set (inV a) (G_ (s_ (inV v.q) i)) (Vi 1))/\b (No (Ns (Ls 2 0 (k_ v.q)) i_ (x_ ((i:Int)+1))) (Kw (Ls 3 0 a.length) (c_ 1 0))) (K_ (Q_ (l_ (List.set (inV a) (G_ (s_ (inV v.q) i)) (Vi 1)) 3) [Vi 0,p_,p_] 25) (h_ v.s v.acc v.nx) (Lp v.q) 4)) (U' v.acc/\LQ v.nx/\F_ v.q/\F_ a/\b (No (Ns (Ls 2 0 (k_ v.q)) i_ (x_ ((i:Int)+1))) (Kw (Ls 3 0 a.length) (c_ 1 0))) (K_ (Q_ (f_ a) [Vi 0,p_,p_] 25) (h_ v.s v.acc v.nx) (Lp v.q) 4))) (U' v.acc/\LQ v.nx/\F_ v.q/\F_ a/\LAtZ (XE v) 1 nLe (AH.mk Lf 0) bLe [1,1,1,1,1,0,0] (iU K) (No (Ns (Ls 2 0 (k_ v.q)) i_ Lf) (Ns (Ls 3 0 a.length) (c_ 1 0) (Kx 0))) (K_ (Q_ (f_ a) [Vi 0,p_,p_] 25) (h_ v.s v.acc v.nx) (Lp v.q) 4))):=by kernel_rfl
theorem jE1_nf:type_of%(by have h:=@MJ;revert h;delta Ot Of b_ c_ d_ f_ g_ h_ i_ j_ k_ l_ m_ o_ p_ s_ x_ F_ G_ I_ K_ P_ Q_ S_ U' Kt Kw Kx Lp Ls Lt LQ;exact id):=@MJ
theorem ML(K:KV)(b:KF)(v:LE)(a:Le)(c:Nat):jE2 K b v a c=(OB v.nx/\U' v.acc/\LQ v.nx/\F_ v.q/\F_ a/\Kt (List.replicate (G_ (KY v.nx)) (Vi 0))/\LC/\LAtZ (XE v) 1 nLe (AH.mk Lf 0) (an (subC pE2 bLe)) [0,1,1,0,1,0] (stepF (XE v) 1 nLe (AH.mk Lf 0) bLe pE2 (iU K) [] [] [] slE2 b) (No (Ns (Kw (Ls 4 0 (G_ (KY v.nx))) (g_ 2 0 (k_ v.q))) i_ (H_ (Vi 0))) (Ns (Kw (Sg (D_ 5)) (g_ 3 0 a.length)) (c_ 1 0) (Kx c))) (K_ (Ns (Lp a) X_ (Sg (Kr [] 0))) (h_ v.s v.acc v.nx) (Kw (Lu (List.replicate (G_ (KY v.nx)) (Vi 0)) 3) (f_ v.q)) 6)):=by kernel_rfl
theorem jE2_nf:type_of%(by have h:=@ML;revert h;delta OB b_ c_ d_ f_ g_ h_ i_ j_ k_ l_ m_ p_ D_ F_ G_ H_ K_ S_ X_ U' Kr Kt Kw Kx KY Lp Ls Lu LC LQ;exact id):=@ML
theorem MM(K:KV)(e:KF)(f:KF)(v:LE)(b:Le)(a:Le)(d:List LB)(c i:Nat):jE3 K e f v b a d c i=(Sp (decide ((i:Int)<j_ v.q)) (Ot i v.q/\nth (inV v.q) i=some (Vi (P_ v.q i))/\Of v.q i b/\nth (inV b) (G_ (s_ (inV v.q) i))=some (Kv b (inV v.q) i)/\U' v.acc/\LQ v.nx/\F_ v.q/\F_ b/\F_ a/\Kt (mvl (KW d))/\Kt [Kv b (inV v.q) i]/\LAtZ (XE v) 1 nLe (AH.mk Lf 0) (an (subC pE3 (an (subC pE2 bLe)))) [1,0,0,1,0,1,0] (stepF (XE v) 1 nLe (AH.mk Lf 0) (an (subC pE2 bLe)) pE3 (kE2 K e v) [] [] [] slE3 f) (No (Ns (Ns (Ls 4 0 a.length) (g_ 2 0 (k_ v.q)) (Kx 0)) i_ (H_ (Vi i))) (Ns (Kw (Sg (D_ 5)) (g_ 3 0 b.length)) (c_ 1 0) (Kw (Sg (t_ 6 0 1 18446744073709551620)) (Vi c)))) (K_ (Ns (Lp b) X_ (Sg (Kr (KW d) d.length))) (h_ v.s v.acc v.nx) (Ns (Lp a) (f_ v.q) (Lu [Kv b (inV v.q) i] 3)) 7)) (Sp (decide (j_ (KW d)=(c:Int))) (HFs [P' v.acc,S_ v.nx,Lw v.q,Lw a,d_ (roV v.rn),d_ (blV v.ra),Lw v.q,Lw a] ((([]:Lh)=[]/\([]:Lh)=[])/\(List.length v.q=List.length (inV v.q)/\List.length a=List.length (inV a))/\LE.Pn v (V_ v.s (blV v.acc) (roV v.nx)) (inV v.q) (inV a) c)/\K (d_ [Vi 0,g_ 6 0 (k_ v.ra),g_ 7 0 (k_ v.rn)]) (K_ (Ns (Kw (Sg (O_ v.rn)) (f_ b)) (m_ [Vi 0,g_ 6 0 (k_ v.ra),g_ 7 0 (k_ v.rn)] 25) (Sg (Kr (KW d) d.length))) (h_ v.s v.acc v.nx) (Ns (Lp a) (f_ v.q) (Sg (Z_ v.ra))) 8)) (U' v.acc/\LQ v.nx/\F_ v.q/\F_ a/\e (No (Ns (Ls 2 0 (k_ v.q)) i_ Lf) (Ns (Ls 3 0 a.length) (c_ 1 0) (Kx (j_ (KW d))))) (K_ (Q_ (f_ a) [Vi 0,p_,p_] 25) (h_ v.s v.acc v.nx) (Lp v.q) 4)))):=by kernel_rfl
theorem jE3_nf:type_of%(by have h:=@MM;revert h;delta Ot Of b_ c_ d_ f_ g_ h_ i_ j_ k_ l_ m_ p_ s_ t_ D_ F_ G_ H_ I_ K_ O_ P_ Q_ S_ V_ X_ Z_ P' U' Kr Kt Kv Kw Kx KW Lp Ls Lu Lw LQ;exact id):=@MM
abbrev KB:=λa=>M_ (Go.HK.keyB (toN (inV a)))
abbrev Ow(a:Nat)(b:Le)(c:La)(d:Le)(e:Nat)(f:Le):Prop:=(List.all [Vi a,Kv b (r_ c (P_ d e)) a] cellv=true/\List.length f+0=List.length (inV f)/\List.length f+(2:Nat)<=(70368744177664:Nat)/\(List.length f+2)*(8:Nat)<=(140737488355328:Nat))
theorem MN(K:KV)(h:KF)(g:KF)(f:KF)(v:LE)(d:Le)(e:Le)(a:List LB)(c i:Nat)(r:Le)(b:Nat):jE4 K h g f v d e a c i r b=(Sp (decide ((b:Int)<256)) (Sp (decide ((b:Int)=0)) (Ot i v.q/\nth (inV v.q) i=some (Vi (P_ v.q i))/\Oj v.q i v.nx/\nth (roV v.nx) (G_ (o_ (P_ v.q i)))=some (Vd 1 (r_ v.nx (P_ v.q i)))/\OE b v.nx v.q i/\nth (r_ v.nx (P_ v.q i)) b=some (Vi (aa (r_ v.nx (P_ v.q i)) b))/\Ov v.nx v.q i b d/\nth (inV d) (G_ (s_ (r_ v.nx (P_ v.q i)) b))=some (Kv d (r_ v.nx (P_ v.q i)) b)/\Ow b d v.nx v.q i r/\U' v.acc/\LQ v.nx/\F_ v.q/\F_ d/\F_ e/\Kt (mvl (KW a))/\Kt (inV r++[Vi b,Kv d (r_ v.nx (P_ v.q i)) b])/\f (No (Ns (Ns (Ls 4 0 e.length) (g_ 2 0 (k_ v.q)) (x_ ((b:Int)+1))) i_ (H_ (Vi i))) (Ns (Kw (Sg (D_ 5)) (g_ 3 0 d.length)) (c_ 1 0) (Kw (Ls 6 0 (List.length r+2)) (Vi c)))) (K_ (Ns (Lp d) X_ (Sg (Kr (KW a) a.length))) (h_ v.s v.acc v.nx) (Ns (Lp e) (f_ v.q) (Lu (inV r++[Vi b,Kv d (r_ v.nx (P_ v.q i)) b]) 3)) 7)) (Ot i v.q/\nth (inV v.q) i=some (Vi (P_ v.q i))/\Oj v.q i v.nx/\nth (roV v.nx) (G_ (o_ (P_ v.q i)))=some (Vd 1 (r_ v.nx (P_ v.q i)))/\OE b v.nx v.q i/\nth (r_ v.nx (P_ v.q i)) b=some (Vi (aa (r_ v.nx (P_ v.q i)) b))/\Ov v.nx v.q i b d/\nth (inV d) (G_ (s_ (r_ v.nx (P_ v.q i)) b))=some (Kv d (r_ v.nx (P_ v.q i)) b)/\Ot i v.q/\nth (inV v.q) i=some (Vi (P_ v.q i))/\Oj v.q i v.nx/\nth (roV v.nx) (G_ (o_ (P_ v.q i)))=some (Vd 1 (r_ v.nx (P_ v.q i)))/\(0<=IntKind.wrap .i64 ((b:Int)-1)/\IntKind.wrap .i64 ((b:Int)-1)<j_ (r_ v.nx (P_ v.q i)))/\nth (r_ v.nx (P_ v.q i)) (G_ (o_ (IntKind.wrap .i64 ((b:Int)-1))))=some (Vi (aa (r_ v.nx (P_ v.q i)) (o_ (IntKind.wrap .i64 ((b:Int)-1)))))/\(0<=aa (r_ v.nx (P_ v.q i)) (o_ (IntKind.wrap .i64 ((b:Int)-1)))/\aa (r_ v.nx (P_ v.q i)) (o_ (IntKind.wrap .i64 ((b:Int)-1)))<I_ d.length)/\nth (inV d) (G_ (s_ (r_ v.nx (P_ v.q i)) (o_ (IntKind.wrap .i64 ((b:Int)-1)))))=some (Kv d (r_ v.nx (P_ v.q i)) (o_ (IntKind.wrap .i64 ((b:Int)-1))))/\Sp (! decide (aa (inV d) (s_ (r_ v.nx (P_ v.q i)) b)=aa (inV d) (s_ (r_ v.nx (P_ v.q i)) (o_ (IntKind.wrap .i64 ((b:Int)-1)))))) (Ot i v.q/\nth (inV v.q) i=some (Vi (P_ v.q i))/\Oj v.q i v.nx/\nth (roV v.nx) (G_ (o_ (P_ v.q i)))=some (Vd 1 (r_ v.nx (P_ v.q i)))/\OE b v.nx v.q i/\nth (r_ v.nx (P_ v.q i)) b=some (Vi (aa (r_ v.nx (P_ v.q i)) b))/\Ov v.nx v.q i b d/\nth (inV d) (G_ (s_ (r_ v.nx (P_ v.q i)) b))=some (Kv d (r_ v.nx (P_ v.q i)) b)/\Ow b d v.nx v.q i r/\U' v.acc/\LQ v.nx/\F_ v.q/\F_ d/\F_ e/\Kt (mvl (KW a))/\Kt (inV r++[Vi b,Kv d (r_ v.nx (P_ v.q i)) b])/\f (No (Ns (Ns (Ls 4 0 e.length) (g_ 2 0 (k_ v.q)) (x_ ((b:Int)+1))) i_ (H_ (Vi i))) (Ns (Kw (Sg (D_ 5)) (g_ 3 0 d.length)) (c_ 1 0) (Kw (Ls 6 0 (List.length r+2)) (Vi c)))) (K_ (Ns (Lp d) X_ (Sg (Kr (KW a) a.length))) (h_ v.s v.acc v.nx) (Ns (Lp e) (f_ v.q) (Lu (inV r++[Vi b,Kv d (r_ v.nx (P_ v.q i)) b]) 3)) 7)) (U' v.acc/\LQ v.nx/\F_ v.q/\F_ d/\F_ e/\Kt (mvl (KW a))/\F_ r/\f (No (Ns (Ns (Ls 4 0 e.length) (g_ 2 0 (k_ v.q)) (x_ ((b:Int)+1))) i_ (H_ (Vi i))) (Ns (Kw (Sg (D_ 5)) (g_ 3 0 d.length)) (c_ 1 0) (Kw (Ls 6 0 r.length) (Vi c)))) (K_ (Ns (Lp d) X_ (Sg (Kr (KW a) a.length))) (h_ v.s v.acc v.nx) (Ns (Lp e) (f_ v.q) (Lp r)) 7)))) (HFs [Lw r,Lw r] (([]:Lh)=[]/\inV r=inV (inF (toN (inV r)))/\List.length r=List.length (inV r)/\(∀(x:Nat),x∈toN (inV r)->x<1679616)/\List.length (inV r)<=100000)/\bY (SX.E (XE v)) 89 (KW a) (KB r)=some (Vi (mgS (KW a) (KB r)),mhS (KW a) (KB r))/\Sp (! mhS (KW a) (KB r)) (aR (SX.E (XE v)) 89 (KW a) a.length (KB r) (Vi (j_ (KW a)))=some (msS (KW a) (KB r) (Vi (j_ (KW a))),mnS (KW a) (KB r) (Vi (j_ (KW a))))/\Ot i v.q/\nth (inV v.q) i=some (Vi (P_ v.q i))/\bY (SX.E (XE v)) 89 (msS (KW a) (KB r) (Vi (j_ (KW a)))) (KB r)=some (Vi (mgS (msS (KW a) (KB r) (Vi (j_ (KW a)))) (KB r)),mhS (msS (KW a) (KB r) (Vi (j_ (KW a)))) (KB r))/\Of v.q i e/\Int.toNat (s_ (inV v.q) i)<List.length (inV e)/\U' v.acc/\LQ v.nx/\F_ v.q/\F_ d/\Kt (List.set (inV e) (G_ (s_ (inV v.q) i)) (Vi (mgS (msS (KW a) (KB r) (Vi (j_ (KW a)))) (KB r))))/\Kt (mvl (msS (KW a) (KB r) (Vi (j_ (KW a)))))/\g (No (Ns (Kw (Ls 4 0 e.length) (g_ 2 0 (k_ v.q))) i_ (No (x_ ((i:Int)+1)) Lf)) (Ns (Kw (Sg (D_ 5)) (g_ 3 0 d.length)) (c_ 1 0) (Kx c))) (K_ (Ns (Lp d) X_ (Sg (Kr (msS (KW a) (KB r) (Vi (j_ (KW a)))) (mnS (KW a) (KB r) (Vi (j_ (KW a))))))) (h_ v.s v.acc v.nx) (Kw (Lu (List.set (inV e) (G_ (s_ (inV v.q) i)) (Vi (mgS (msS (KW a) (KB r) (Vi (j_ (KW a)))) (KB r)))) 3) (f_ v.q)) 6)) (Ot i v.q/\nth (inV v.q) i=some (Vi (P_ v.q i))/\bY (SX.E (XE v)) 89 (KW a) (KB r)=some (Vi (mgS (KW a) (KB r)),mhS (KW a) (KB r))/\Of v.q i e/\Int.toNat (s_ (inV v.q) i)<List.length (inV e)/\U' v.acc/\LQ v.nx/\F_ v.q/\F_ d/\Kt (List.set (inV e) (G_ (s_ (inV v.q) i)) (Vi (mgS (KW a) (KB r))))/\Kt (mvl (KW a))/\g (No (Ns (Kw (Ls 4 0 e.length) (g_ 2 0 (k_ v.q))) i_ (No (x_ ((i:Int)+1)) Lf)) (Ns (Kw (Sg (D_ 5)) (g_ 3 0 d.length)) (c_ 1 0) (Kx c))) (K_ (Ns (Lp d) X_ (Sg (Kr (KW a) a.length))) (h_ v.s v.acc v.nx) (Kw (Lu (List.set (inV e) (G_ (s_ (inV v.q) i)) (Vi (mgS (KW a) (KB r)))) 3) (f_ v.q)) 6)))):=by kernel_rfl
theorem jE4_nf:type_of%(by have h:=@MN;revert h;delta OE Ow Ov Ot Oj Of b_ c_ d_ f_ g_ h_ i_ j_ k_ l_ m_ o_ p_ r_ s_ x_ D_ F_ G_ H_ I_ K_ M_ P_ S_ X_ U' Kr Kt Kv Kw Kx KB KW KY Lp Ls Lu Lw LQ;exact id):=@MN
def LE.a(v:LE):AU:=(v.s,v.acc,v.nx)
structure LeOk (v:LE) (l:Lg):Prop where
 X:(XE v).Ok
 q:v.q=inF l
 ok:OkL v.a
 lt:∀ s∈l,s<v.nx.length
 cls:∀ s∈l,∀b,b<256->dA v.a s b∈l
 ne:l≠[]
 l1:l.length<=90000
def clL(N:Nat)(l:Lg)(f:Nat->Nat):Le:=(List.range N).map λs=>((if s∈l then f s else 0:Nat):Int)
theorem bA(N:Nat)(l:Lg)(f:Nat->Nat):(clL N l f).length=N:=by unfold clL;grind
theorem sK{f:Nat->Nat}{s:Nat}(h:s<N):∃ a:s<(clL N l f).length,(clL N l f)[s]=((if s∈l then f s else 0:Nat):Int):=by grind [bA,clL,JL,JW]
theorem sJ{f:Nat->Nat}{s:Nat}(h:s<N)(b:s∈l):∃ a:s<(clL N l f).length,(clL N l f)[s]=(f s:Nat):=by obtain⟨a,c⟩:=sK (l:=l) (f:=f) h;grind
theorem xG(N:Nat)(f:Nat->Nat):clL N [] f=List.replicate N 0:=by unfold clL;rw[Kb];refine⟨by simp,λx a=>?_⟩;obtain⟨k,_,rfl⟩:=Hn.1 a;simp
theorem xH{A:Le}{f:Nat->Nat}(a:A.length=N)(h:∀ s (h:s<A.length),A[s]=((if s∈l then f s else 0:Nat):Int)):A=clL N l f:=by grind [JM,bA,sK]
theorem qE(a:i<l.length)(s:Nat):s∈l.take (i+1)↔s∈l.take i∨s=l[i]:=by rw[HC a,H3,Ie]
theorem sI{f:Nat->Nat}(a:i<l.length):(clL N (l.take i) f).set l[i] (f l[i]:Nat)=clL N (l.take (i+1)) f:=by refine xH (by rw[Hz,bA]) λs h=>?_;rw[Hz,bA]at h;obtain⟨c,d⟩:=sK (N:=N) (l:=l.take i) (f:=f) h;have b:=qE a s;grind
theorem Ah{f:Nat->Nat}(a:i<l.length)(c:f l[i]=0):clL N (l.take i) f=clL N (l.take (i+1)) f:=by refine xH (bA _ _ _) λs h=>?_;rw[bA]at h;obtain⟨d,e⟩:=sK (N:=N) (l:=l.take i) (f:=f) h;have b:=qE a s;grind
theorem xI{f g:Nat->Nat}(h:∀ s∈l,f s=g s):clL N l f=clL N l g:=by simp_all [clL,HQ,Ht,Hm]
theorem Gp{K:KV}{v:LE}(h:LeOk v l)
 (j:LAtZ (XE v) 1 nLe ⟨.leaf,0⟩ bLe pE2 (iU K) (frE2 v.q.length v.nx.length 0) (hE1 v (clL v.nx.length l (ac01 (acN v.acc))))):
 LAtZ (XE v) 1 nLe ⟨.leaf,0⟩ bLe pE1 (iU K) (FG v.q.length v.nx.length 0) (hE1 v (List.replicate v.nx.length 0)):=by
 have u:=ao l;have t:v.q.length=l.length:=by rw[h.q,u]
 have y:=h.l1;have C:v.acc.length=v.nx.length:=h.ok.acc;refine LAtZ.stepF h.X [] [] [] slE1 (by kernel_rfl) (λm G A=>∃ i:Nat,G=FG v.q.length (clL v.nx.length (l.take i) (ac01 (acN v.acc))).length i/\A=hE1 v (clL v.nx.length (l.take i) (ac01 (acN v.acc)))/\i+m=l.length) ?_ (k:=l.length) ⟨0,by rw[bA],by rw[List.take_zero,xG],by omega⟩;rintro m G A ⟨i,rfl,rfl,z⟩;have B:=bA v.nx.length (l.take i) (ac01 (acN v.acc));refine(jE1_nf _ _ v (clL v.nx.length (l.take i) (ac01 (acN v.acc))) i).mpr (Sp.intro (λc=>?_) (λc=>?_));have c:=odt c;have e:i<l.length:=by omega
 have b:i<(inF l).length:=by omega
 have F:aa (inV v.q) (i:Int)=(l[i]:Nat):=by rw[h.q,aA b,bD e]
 have p:nth (inV v.q) i=some (Vi (l[i]:Nat)):=by rw[h.q,aL b,bD e]
 have w:=h.lt _ (Hq e);have D:l[i]<v.acc.length:=by omega
 have E:az (blV v.acc) ((l[i]:Nat):Int)=acN v.acc l[i]:=by grind [bw,acN,gD]
 have r:nth (blV v.acc) l[i]=some (.bool (acN v.acc l[i])):=by grind [dj,acN,gD]
 have s:=aT v.acc;have a:=sI (N:=v.nx.length) (f:=ac01 (acN v.acc)) e;have g:=Ah (N:=v.nx.length) (f:=ac01 (acN v.acc)) e;have o:ac01 (acN v.acc) l[i]=if acN v.acc l[i]then 1 else 0:=rfl;rw[o]at a g;rw[F];simp only[D',HN];rw[E,s,bz,aF (x:=(i:Int)+1) (by omega) (by omega)];refine⟨⟨by omega,by omega⟩,p,⟨by omega,by omega⟩,r,Sp.intro (λd=>?_) (λd=>?_)⟩;rw[Ht d]at a;have a:(clL v.nx.length (l.take i) (ac01 (acN v.acc))).set l[i] 1=_:=a;rw[a];refine⟨⟨by omega,by omega⟩,p,⟨by omega,by omega⟩,by rw[af];omega,.dat (ax _),.dat (aq _),ab _,ab _,m-1,by omega,i+1,?_,rfl,by omega⟩;rw[bA,bA];rfl;rw[Hm (by rw[d];decide)]at g;rw[g rfl];exact⟨.dat (ax _),.dat (aq _),ab _,ab _,m-1,by omega,i+1,rfl,rfl,by omega⟩;have c:=odf c;obtain rfl:i=l.length:=by omega
 rw[HX,bA];exact⟨.dat (ax _),.dat (aq _),ab _,ab _,j⟩
end
end Go.T9
set_option maxHeartbeats 800000
namespace Go.T9
open Go Go.AM Go.MK Go.HK
noncomputable section
variable {v:LE}{l:Lg}{c:Nat}
theorem xp(ks:List LB):(enS (mkM ks)).length=ks.length:=by unfold enS;rw[qi,gj]
def chR(g:Nat->Nat)(x b:Nat):Lg:=x::chg 0 none ((List.range b).map g)
theorem ni(g:Nat->Nat)(x b:Nat):chR g x (b+1)=if b=0∨g b≠g (b-1)then chR g x b++[b,g b]else chR g x b:=by unfold chR;rw[nN,sL,Hp,IN,IW];grind
theorem xM(g:Nat->Nat)(x:Nat):∀ b,(chR g x b).length<=2*b+1
 |0=>by simp[chR,chg]
 |b+1=>by have:=xM g x b;grind [ni,E']
theorem xL{g:Nat->Nat}{x:Nat}(a:x<1679616)(d:∀ b,b<256->g b<1679616):∀ b,b<=256->∀ y∈chR g x b,y<1679616
 | 0,_,y,h=>by
  have:y=x:=by simpa[chR,chg]using h
  omega
 |b+1,hb,y,h=>by rw[ni]at h;split at h;rcases H3.1 h with e|e;exact xL a d b (by omega) y e;grind;exact xL a d b (by omega) y h
theorem DP(δ :Nat->Nat->Nat)(f:Nat->Nat)(s:Nat):keyT δ f s=keyB (chR (λb=>f (δ s b)) (f s) 256):=rfl
theorem Gl{K:KV}{again2 again3:KF}(h:LeOk v l){f:Nat->Nat}(hf:∀ s∈l,f s<=90000){nw:Le}{ks:List LB}{i:Nat}(M:i<l.length)(u:nw.length=v.nx.length)(a4:ks.length<=90000)
 (o:again3 (frE3 v.q.length v.nx.length c v.nx.length (i+1)) (hE3 v (clL v.nx.length l f) (nw.set l[i] (idN (addS ks [keyT (dA v.a) f l[i]]) (keyT (dA v.a) f l[i]):Nat)) (addS ks [keyT (dA v.a) f l[i]]))):
 LAtZ (XE v) 1 nLe ⟨.leaf,0⟩ (an (subC pE3 (an (subC pE2 bLe)))) pE4 (kE3 K again2 again3 v) (frE4 v.q.length v.nx.length c v.nx.length i 1 0) (hE4 v (clL v.nx.length l f) nw ks (inF [f l[i]])):=by
 have hq:=ao l;have a2:v.q.length=l.length:=by rw[h.q,hq]
 have a3:=h.l1;have B:i<(inF l).length:=by omega
 have Y:aa (inV v.q) (i:Int)=(l[i]:Nat):=by rw[h.q,aA B,bD M]
 have y:nth (inV v.q) i=some (Vi (l[i]:Nat)):=by rw[h.q,aL B,bD M]
 have n:=Hq M;have w:=h.lt _ n;have r:=h.cls _ n;have a5:=hf _ n;rw[DP]at o;generalize l[i]=s at*;have t:=bA v.nx.length l f;have hg:∀ b,b<256->f (dA v.a s b)<1679616:=λb N=>by grind
 have l2:=aG v.nx;refine LAtZ.stepF h.X nsE4 [] [] slE4 (by kernel_rfl) (λm G A=>∃ b:Nat,G=frE4 v.q.length (clL v.nx.length l f).length c nw.length i (inF (chR (λb=>f (dA v.a s b)) (f s) b)).length b/\A=hE4 v (clL v.nx.length l f) nw ks (inF (chR (λb=>f (dA v.a s b)) (f s) b))/\b+m=256) ?_ (k:=256) ⟨0,by rw[bA,u];rfl,rfl,rfl⟩;rintro m G A ⟨b,rfl,rfl,a6⟩;have e:=ni (λb=>f (dA v.a s b)) (f s) b;have a0:=xM (λb=>f (dA v.a s b)) (f s) b;have L:=xL (g:=λb=>f (dA v.a s b)) (x:=f s) (by omega) hg b (by omega);refine(jE4_nf _ _ _ _ v (clL v.nx.length l f) nw ks c i (inF (chR (λb=>f (dA v.a s b)) (f s) b)) b).mpr (Sp.intro (λd=>?_) (λd=>?_));have d:=odt d;have N:b<256:=by omega
 have F:∀ j,j<256->(∃h1:j<v.nx[s].length,v.nx[s][j]=(dA v.a s j:Int)/\dA v.a s j<v.nx.length):=λj hj=>h.ok.at' (a:=v.a) w hj;obtain⟨s1,U,s3⟩:=F b N;have e2:ae (roV v.nx) (s:Int)=inV v.nx[s]:=bL w;have H:nth (roV v.nx) s=some (Vd 1 (inV v.nx[s])):=cG w;have e3:aa (inV v.nx[s]) (b:Int)=(dA v.a s b:Nat):=by rw[aA s1,U]
 have J:nth (inV v.nx[s]) b=some (Vi (dA v.a s b:Nat)):=by rw[aL s1,U]
 obtain⟨c1,Z⟩:=sJ (f:=f) s3 (r b N);have e4:aa (inV (clL v.nx.length l f)) ((dA v.a s b:Nat):Int)=(f (dA v.a s b):Nat):=by rw[aA c1,Z]
 have I:nth (inV (clL v.nx.length l f)) (dA v.a s b)=some (Vi (f (dA v.a s b):Nat)):=by rw[aL c1,Z]
 have l1:(inV v.nx[s]).length=v.nx[s].length:=af _;have ea:inV (inF (chR (λb=>f (dA v.a s b)) (f s) b))++[Vi ((b:Nat):Int),Vi ((f (dA v.a s b):Nat):Int)]=inV (inF (chR (λb=>f (dA v.a s b)) (f s) b++[b,f (dA v.a s b)])):=by grind [inV,inF,HD]
 have a1:=ao (chR (λb=>f (dA v.a s b)) (f s) b);have z:(inF (chR (λb=>f (dA v.a s b)) (f s) b++[b,f (dA v.a s b)])).length=(inF (chR (λb=>f (dA v.a s b)) (f s) b)).length+2:=by rw[ao,ao,E'];rfl
 have w0:IntKind.wrap .i64 ((b:Int)+1)=(b:Int)+1:=aF (by omega) (by omega);simp only[Y,D',HN,e2,e3,l1,l2,e4,ea,w0];refine Sp.intro (λE=>?_) (λE=>?_);have E:=odt E;rw[Ht (.inl (by omega))]at e;refine⟨⟨by omega,by omega⟩,y,⟨by omega,by omega⟩,H,⟨by omega,by omega⟩,J,⟨by omega,by omega⟩,I,⟨rfl,by rw[af],by omega,by omega⟩,.dat (ax _),.dat (aq _),ab _,ab _,ab _,fF _,ab _,m-1,by omega,b+1,?_,?_,by omega⟩;rw[e,z];rfl;rw[e];rfl;have E:=odf E;have a7:0<b:=by omega
 have C:((b:Int)-1)=((b-1:Nat):Int):=by omega
 obtain⟨S,Q,t3⟩:=F (b-1) (by omega);have e5:aa (inV v.nx[s]) ((b-1:Nat):Int)=(dA v.a s (b-1):Nat):=by rw[aA S,Q]
 have n5:nth (inV v.nx[s]) (b-1)=some (Vi (dA v.a s (b-1):Nat)):=by rw[aL S,Q]
 obtain⟨P,O⟩:=sJ (f:=f) t3 (r (b-1) (by omega));have e6:aa (inV (clL v.nx.length l f)) ((dA v.a s (b-1):Nat):Int)=(f (dA v.a s (b-1)):Nat):=by rw[aA P,O]
 have n6:nth (inV (clL v.nx.length l f)) (dA v.a s (b-1))=some (Vi (f (dA v.a s (b-1)):Nat)):=by rw[aL P,O]
 have w1:IntKind.wrap .i64 ((b:Int)-1)=((b-1:Nat):Int):=by rw[C];exact aF (by omega) (by omega)
 simp only[w1,D',HN,e5,e6];refine⟨⟨by omega,by omega⟩,y,⟨by omega,by omega⟩,H,⟨by omega,by omega⟩,J,⟨by omega,by omega⟩,I,⟨by omega,by omega⟩,y,⟨by omega,by omega⟩,H,⟨by omega,by omega⟩,n5,⟨by omega,by omega⟩,n6,Sp.intro (λD=>?_) (λD=>?_)⟩;have D:¬ ((f (dA v.a s b):Nat):Int)=(f (dA v.a s (b-1)):Nat):=by simpa using D
 rw[Ht (.inr (by omega))]at e;refine⟨⟨by omega,by omega⟩,y,⟨by omega,by omega⟩,H,⟨by omega,by omega⟩,J,⟨by omega,by omega⟩,I,⟨rfl,by rw[af],by omega,by omega⟩,.dat (ax _),.dat (aq _),ab _,ab _,ab _,fF _,ab _,m-1,by omega,b+1,?_,?_,by omega⟩;rw[e,z];rfl;rw[e];rfl;have D:((f (dA v.a s b):Nat):Int)=(f (dA v.a s (b-1)):Nat):=by simpa using D
 rw[Hm (by omega)]at e;refine⟨.dat (ax _),.dat (aq _),ab _,ab _,ab _,fF _,ab _,m-1,by omega,b+1,?_,?_,by omega⟩;rw[e];rfl;rw[e];rfl;have d:=odf d;obtain rfl:b=256:=by omega
 generalize chR (λb=>f (dA v.a s b)) (f s) 256=R at*;have a8:=ao R;rw[toN_in,xp,Y];have ek:Vs (ByteArray.mk (Array.mk (keyB R)))=kS (keyB R):=rfl;rw[ek,pB];simp only[D',HN];refine⟨⟨ab _,ab _,⟨trivial,trivial,by rw[af],L,by rw[af];omega⟩⟩,(vQ _ _).trans (by rw[pB]),Sp.intro (λg=>?_) (λg=>?_)⟩;have g:¬ keyB R∈ks:=by simpa using g
 have p:addS ks [keyB R]=ks++[keyB R]:=by simp only[addS,Hm g]
 rw[p]at o;have V:keyB R∈ks++[keyB R]:=by simp
 rw[Dw _ _ g,Dy _ _ g,tC _ _ V,bz,aF (x:=(i:Int)+1) (by omega) (by omega)];refine⟨uy _ _ g,⟨by omega,by omega⟩,y,(vQ _ _).trans (by rw[tC _ _ V]),⟨by omega,by omega⟩,by rw[af];omega,.dat (ax _),.dat (aq _),ab _,ab _,ab _,fF _,?_⟩;rw[t,u];exact o;have g:keyB R∈ks:=by simpa using g
 have p:addS ks [keyB R]=ks:=by simp only[addS,Ht g]
 rw[p]at o;rw[tC _ _ g,bz,aF (x:=(i:Int)+1) (by omega) (by omega)];refine⟨⟨by omega,by omega⟩,y,(vQ _ _).trans (by rw[tC _ _ g,pB]),⟨by omega,by omega⟩,by rw[af];omega,.dat (ax _),.dat (aq _),ab _,ab _,ab _,fF _,?_⟩;rw[t,u];exact o
set_option maxHeartbeats 400000
theorem ny{S:Type}[DecidableEq S]:∀ (a q b:List S),addS q (a++b)=addS (addS q a) b
 | [],q,b=>rfl
 |x::a,q,b=>by simp only[IY,addS];split<;>exact ny a _ b
def ksF(δ :Nat->Nat->Nat)(l:Lg)(f:Nat->Nat):List LB:=addS [] (l.map (keyT δ f))
theorem ksF_T(δ :Nat->Nat->Nat)(l:Lg)(f:Nat->Nat):ksF δ l f=ksT δ l f:=by unfold ksF ksT dd;rw[kK]
def leV(n m:Nat):Value:=.agg ⟨[.int .i64 0,groS 0 n,groS 1 m]⟩
def hLeF(v:LE)(b c:Le)(a:List LB):AH:=⟨(Nd (Nd (Nd (Nd Lf (some (groR v.rn)) Lf) (some (groI b)) Lf) (some (.cells [.int .i64 0,groS 6 v.ra.length,groS 7 v.rn.length] 25)) (Nd Lf (some (.map (enS (mkM a)) a.length)) Lf)) (some (auC v.s v.acc v.nx)) (Nd (Nd Lf (some (groI c)) Lf) (some (groI v.q)) (Nd Lf (some (groB v.ra)) Lf))),8⟩
theorem end_le(Q:Value->AH->Prop)(v:LE)(a c:Le)(b:List LB):endF env ⟨.leaf,0⟩ [] [] [] Q (.agg ⟨[.int .i64 0,groS 6 v.ra.length,groS 7 v.rn.length]⟩) (hLeF v a c b)=(HF (.agg ⟨blV v.ra⟩)/\HF (.agg ⟨roV v.rn⟩)/\Q (leV v.ra.length v.rn.length) (hM0 v.ra v.rn)):=by kernel_rfl
theorem Gm{Q:Value->AH->Prop}{again2:KF}(h:LeOk v l){f:Nat->Nat}(V:∀ s∈l,f s<=90000)(hQ:Q (leV v.ra.length v.rn.length) (hM0 v.ra v.rn))
 (Y:(ksF (dA v.a) l f).length=c->v.Pn (auV v.a) (inV v.q) (inV (clL v.nx.length l λs=>idN (ksF (dA v.a) l f) (keyT (dA v.a) f s))) (c:Int))
 (Z:(ksF (dA v.a) l f).length≠c->again2 (frE2 v.q.length v.nx.length (ksF (dA v.a) l f).length) (hE1 v (clL v.nx.length l λs=>idN (ksF (dA v.a) l f) (keyT (dA v.a) f s)))):
 LAtZ (XE v) 1 nLe ⟨.leaf,0⟩ (an (subC pE2 bLe)) pE3 (kE2 (endF env ⟨.leaf,0⟩ [] [] [] Q) again2 v) (frE3 v.q.length v.nx.length c v.nx.length 0) (hE3 v (clL v.nx.length l f) (List.replicate v.nx.length 0) []):=by
 have J:=ao l;have I:v.q.length=l.length:=by rw[h.q,J]
 have L:=h.l1;have t:=bA v.nx.length l f;have o:∀ i,(addS [] ((l.take i).map (keyT (dA v.a) f))).length<=i:=λi=>by
  rw[kK];have:=cf (l:=ddA [] ((l.take i).map (keyT (dA v.a) f))) (m:=(l.take i).map (keyT (dA v.a) f)) (xu _ _ (by simp)) λk O=>by rcases(qm _ _ _).1 O with h|h;cases h;exact h
  grind
 generalize U:(λs=>idN (ksF (dA v.a) l f) (keyT (dA v.a) f s))=g at*;refine LAtZ.stepF h.X [] [] [] slE3 (by kernel_rfl) (λm G A=>∃ i:Nat,G=frE3 v.q.length (clL v.nx.length l f).length c (clL v.nx.length (l.take i) g).length i/\A=hE3 v (clL v.nx.length l f) (clL v.nx.length (l.take i) g) (addS [] ((l.take i).map (keyT (dA v.a) f)))/\i+m=l.length) ?_ (k:=l.length) ⟨0,by rw[bA,bA],by rw[List.take_zero,xG];rfl,by omega⟩;rintro m G A ⟨i,rfl,rfl,R⟩;have u:=bA v.nx.length (l.take i) g;have M:=o i;refine(jE3_nf _ _ _ v (clL v.nx.length l f) (clL v.nx.length (l.take i) g) (addS [] ((l.take i).map (keyT (dA v.a) f))) c i).mpr (Sp.intro (λd=>?_) (λd=>?_))
 · have d:=odt d;have n:i<l.length:=by omega
   have p:i<(inF l).length:=by omega
   have e1:aa (inV v.q) (i:Int)=(l[i]:Nat):=by rw[h.q,aA p,bD n]
   have H:nth (inV v.q) i=some (Vi (l[i]:Nat)):=by rw[h.q,aL p,bD n]
   have b:=Hq n;have x:=h.lt _ b;obtain⟨E,D⟩:=sJ (f:=f) x b;have e2:aa (inV (clL v.nx.length l f)) ((l[i]:Nat):Int)=(f l[i]:Nat):=by rw[aA E,D]
   have F:nth (inV (clL v.nx.length l f)) l[i]=some (Vi (f l[i]:Nat)):=by rw[aL E,D]
   have j:(l.take (i+1)).map (keyT (dA v.a) f)=(l.take i).map (keyT (dA v.a) f)++[keyT (dA v.a) f l[i]]:=by rw[HC n,HD];rfl
   have C:addS [] ((l.take (i+1)).map (keyT (dA v.a) f))=addS (addS [] ((l.take i).map (keyT (dA v.a) f))) [keyT (dA v.a) f l[i]]:=by rw[j,ny]
   have P:keyT (dA v.a) f l[i]∈addS (addS [] ((l.take i).map (keyT (dA v.a) f))) [keyT (dA v.a) f l[i]]:=eN (by simp);have S:(idN (addS (addS [] ((l.take i).map (keyT (dA v.a) f))) [keyT (dA v.a) f l[i]]) (keyT (dA v.a) f l[i]))=g l[i]:=by
    rw[<-U];have hF:ksF (dA v.a) l f=addS (addS [] ((l.take (i+1)).map (keyT (dA v.a) f))) ((l.drop (i+1)).map (keyT (dA v.a) f)):=by rw[<-ny,<-HD,JF];rfl
    obtain⟨r,hr⟩:=cN ((l.drop (i+1)).map (keyT (dA v.a) f)) (addS [] ((l.take (i+1)).map (keyT (dA v.a) f)));grind [idN,ksF,dA,pQ]
   have B:=sI (N:=v.nx.length) (f:=g) n;have w:=λ(K:KV) (z:KF) y=>Gl (K:=K) (again2:=again2) (again3:=z) h V (nw:=clL v.nx.length (l.take i) g) (ks:=addS [] ((l.take i).map (keyT (dA v.a) f))) (c:=c) n u (by omega) y;rw[e1];simp only[D',HN];rw[e2,t,u];refine⟨⟨by omega,by omega⟩,H,⟨by omega,by omega⟩,F,.dat (ax _),.dat (aq _),ab _,ab _,ab _,fF _,ab [_],w _ _ ?_⟩;refine⟨m-1,by omega,i+1,?_,?_,by omega⟩;all_goals grind
 have d:=odf d;obtain rfl:i=l.length:=by omega
 have ek:addS [] ((l.take l.length).map (keyT (dA v.a) f))=ksF (dA v.a) l f:=by rw[HX];rfl
 rw[ek,xp,HX,bA];refine Sp.intro (λe=>?_) (λe=>?_);have e:=odt e;refine⟨⟨.dat (ax _),.dat (aq _),ab _,ab _,aw _,au _,ab _,ab _,⟨⟨rfl,rfl⟩,⟨by rw[af],by rw[af,bA]⟩,Y (by omega)⟩⟩,?_⟩;refine(end_le Q v (clL v.nx.length l f) (clL v.nx.length l g) (ksF (dA v.a) l f)).mpr ?_;grind [au,aw];have e:=odf e;refine⟨.dat (ax _),.dat (aq _),ab _,ab _,?_⟩;exact Z (by omega)
theorem Af{δ :Nat->Nat->Nat}{nb:Nat}{f:Nat->Nat}(a:c=(dd (l.map f)).length∨c=0/\l≠[])(e:¬ cntM δ nb l f=c):c<cntM δ nb l f:=by
 rcases a with a|⟨a,g⟩;have:=cf (l:=dd (l.map f)) (m:=(dd (l.map (keyM δ nb f))).map (·.1)) (m5 _) λk d=>by obtain⟨s,b,rfl⟩:=Hn.1 (dd_mem.1 d);exact Hn.2 ⟨keyM δ nb f s,dd_mem.2 (Hn.2 ⟨s,b,rfl⟩),rfl⟩
 rw[Hp]at this;unfold cntM at e ⊢;omega;omega
theorem BH(l:Lg)(f:Nat->Nat):(dd (l.map f)).length<=l.length:=by have:=cf (l:=dd (l.map f)) (m:=l.map f) (m5 _) λk a=>dd_mem.1 a;rwa[Hp]at this
theorem Gn{Q:Value->AH->Prop}(h:LeOk v l)(J:Q (leV v.ra.length v.rn.length) (hM0 v.ra v.rn)){R:(Nat->Nat)×Nat}(I:rndM (dA v.a) 256 l 90003 (ac01 (acN v.acc)) 0=R)
 (O:v.Pn (auV v.a) (inV v.q) (inV (clL v.nx.length l R.1)) (R.2:Int)):
 LAtZ (XE v) 1 nLe ⟨.leaf,0⟩ bLe pE2 (iU (endF env ⟨.leaf,0⟩ [] [] [] Q)) (frE2 v.q.length v.nx.length 0) (hE1 v (clL v.nx.length l (ac01 (acN v.acc)))):=by
 have E:=h.l1;have C:v.nx.length<=90000:=h.ok.n1;have B:=aG v.nx;refine LAtZ.stepF h.X [] [] [] slE2 (by kernel_rfl) (λm G A=>∃ (f:Nat->Nat) (c:Nat),G=frE2 v.q.length v.nx.length c/\A=hE1 v (clL v.nx.length l f)/\(∀s∈l,f s<=90000)/\(c=(dd (l.map f)).length∨c=0/\l≠[])/\l.length+2<=m+c/\rndM (dA v.a) 256 l m f c=R) ?_ (k:=90003) ⟨ac01 (acN v.acc),0,rfl,rfl,λs _=>by unfold ac01;split<;>omega,.inr ⟨rfl,h.ne⟩,by omega,I⟩;rintro m G A ⟨f,c,rfl,rfl,x,L,D,i⟩;have y:c<=l.length:=by grind [BH]
 obtain⟨g,rfl⟩:∃ g,m=g+1:=⟨m-1,by omega⟩;have z:∀ s∈l,f s<1679616:=λs n=>by have:=x s n;omega
 have d:∀ s∈l,∀b,b<256->dA v.a s b∈l:=h.cls;have o:(ksF (dA v.a) l f).length=cntM (dA v.a) 256 l f:=by rw[ksF_T];exact cntT z d
 have u:clL v.nx.length l (λs=>idN (ksF (dA v.a) l f) (keyT (dA v.a) f s))=clL v.nx.length l (cE (dA v.a) 256 l f):=xI λs n=>by rw[rR,ksF_T];exact nextT z d s n
 have p:=bA v.nx.length l f;have j:=λ(w:KF) H K=>Gm (Q:=Q) (again2:=w) h x (c:=c) J H K;rw[u,o]at j;have t:=jE2_nf (endF env ⟨.leaf,0⟩ [] [] [] Q) (λM N=>∃ r,r<g+1/\∃ (f:Nat->Nat) (c:Nat),M=frE2 v.q.length v.nx.length c/\N=hE1 v (clL v.nx.length l f)/\(∀s∈l,f s<=90000)/\(c=(dd (l.map f)).length∨c=0/\l≠[])/\l.length+2<=r+c/\rndM (dA v.a) 256 l r f c=R) v (clL v.nx.length l f) c;unfold jE2 at t;rw[p]at t;refine t.mpr ?_;rw[B];simp only[D'];rw[dE];refine⟨⟨by omega,by omega,by omega,by omega⟩,.dat (ax _),.dat (aq _),ab _,ab _,ab _,fF (mkM ([]:List LB)),j _ (λe=>?_) (λe=>?_)⟩;have i:(if cntM (dA v.a) 256 l f=c then(cE (dA v.a) 256 l f,c)else rndM (dA v.a) 256 l g (cE (dA v.a) 256 l f) (cntM (dA v.a) 256 l f))=R:=i;grind;have i:(if cntM (dA v.a) 256 l f=c then(cE (dA v.a) 256 l f,c)else rndM (dA v.a) 256 l g (cE (dA v.a) 256 l f) (cntM (dA v.a) 256 l f))=R:=i;rw[Hm e]at i;have F:=Af L e;refine⟨g,by omega,cE (dA v.a) 256 l f,cntM (dA v.a) 256 l f,rfl,rfl,λs n=>?_,.inl cntM_next.symm,by omega,i⟩;have S:cE (dA v.a) 256 l f s<cntM (dA v.a) 256 l f:=oq (dd_mem.2 (Hn.2 ⟨s,n,rfl⟩));have P:cntM (dA v.a) 256 l f<=l.length:=GC;omega
def rfE(a:AU):(Nat->Nat)×Nat:=rndM (dA a) 256 (rfL (dA a) a.1.toNat) 90003 (ac01 (acN a.2.1)) 0
theorem Dc{δ :Nat->Nat->Nat}{acc:Nat->Bool}(d:∀ s∈l,∀b, δ s b∈l)(a:l≠[]){F:Nat}(i:l.length+2<=F){R:(Nat->Nat)×Nat}(j:rndM δ 256 l F (ac01 acc) 0=R):(∀s∈l,R.1 s<R.2)/\R.2=(dd (l.map R.1)).length:=by
 obtain⟨_,m,k⟩:=pn (δ := δ) (nb:=256) (l:=l) (acc:=acc) (λs f b _=>d s f b) F (cl:=ac01 acc) (c:=0) (λs _ t _ e=>by
  have:=e [] (λc g=>by cases g);unfold ac01;have h:acc s=acc t:=this;rw[h]) (λs _ t _ e=>by
  grind [ac01]) (.inr ⟨rfl,a⟩) (by omega)
 grind
theorem rfE_nm{a:AU}(h:OkL a):NmOk a (rfL (dA a) a.1.toNat) (clL a.2.2.length (rfL (dA a) a.1.toNat) (rfE a).1) (rfE a).2 (rfE a).1:=by
 have g:=RAL.of h;have q:=g.len;have r:=h.n1;have p:=g.mem;obtain⟨t,y⟩:=Dc (acc:=acN a.2.1) (λs d b=>g.cl s d b) (List.ne_nil_of_mem p) (F:=90003) (by omega) (R:=rfE a) (by unfold rfE;exact Ig _);generalize rfE a=R at*;have f:=g.ei.inp;have n:=g.cl;generalize rfL (dA a) a.1.toNat=l at*;have w:=BH l R.1;refine⟨h,bA _ _ _,λs d=>sJ (f s d) d,λs d=>⟨f s d,t s d⟩,λk u=>?_,λs d b _=>n s d b,p,by omega,by omega⟩;have i:(dd (l.map R.1)).Nodup:=m5 _;have d:∀ x∈dd (l.map R.1),x∈List.range R.2:=λx o=>by obtain⟨s,d,rfl⟩:=Hn.1 (dd_mem.1 o);grind
 have j:k∈dd (l.map R.1):=by
  rcases Classical.em (k∈dd (l.map R.1))with h|h;exact h;exfalso;have:=cf (l:=k::dd (l.map R.1)) (m:=List.range R.2) (Ij.2 ⟨h,i⟩) λx o=>by grind
  grind
 obtain⟨s,d,e⟩:=Hn.1 (dd_mem.1 j);exact⟨s,d,e⟩
end
end Go.T9
set_option maxHeartbeats 400000
namespace Go.T9
open Go Go.AM Go.MK Go.HK Go.Proofs.Tryz
noncomputable section
def reA(a:AU):Li:=rfA (dA a) (acN a.2.1) a.1.toNat
def reR(a:AU):La:=(rfT (dA a) (acN a.2.1) a.1.toNat).map inF
def leP(a:AU)(L:Lg)(R:(Nat->Nat)×Nat):Value->Lh->Lh->Int->Prop:=λu l1 l2 m=>∃ cl,NmOk a L cl R.2 R.1/\u=auV a/\l1=inV (inF L)/\l2=inV cl/\m=(R.2:Int)
def leO(a:AU)(L:Lg)(R:(Nat->Nat)×Nat)(b:Li)(c:La):LE:=⟨λu=>u=auV a,inF L,leP a L R,b,c,a.1,a.2.1,a.2.2⟩
theorem leO_ok{a:AU}{L:Lg}{R:(Nat->Nat)×Nat}{g:Li}{f:La}(h:OkL a)(t1:∀ args A p v A',frmR noAr (spMt (λu=>u=auV a) (inF L)) args A=some (p,v,A')->PH p->CallAt env 53 args A v A')
 (i:∀ args A p v A',frmR noAr (spNu (leP a L R) g f) args A=some (p,v,A')->PH p->CallAt env 55 args A v A') (d:∀ s∈L,s<a.2.2.length) (e:∀ s∈L,∀b,dA a s b∈L) (c:L≠[]) (k:L.length<=90000):LeOk (leO a L R g f) L:=
 ⟨⟨ai,aD,am,.cons t1 (.cons kt_tab (.cons i .nil))⟩,rfl,h,d,λs j b _=>e s j b,c,k⟩
theorem le_gen{a:AU}{L:Lg}{R:(Nat->Nat)×Nat}{c:Li}{b:La}(h:OkL a)(g:LeOk (leO a L R c b) L)(f:NmOk a L (clL a.2.2.length L R.1) R.2 R.1)(m:rndM (dA a) 256 L 90003 (ac01 (acN a.2.1)) 0=R):WalkF env f28 [auV a] ⟨.leaf,0⟩ (leV c.length b.length) (hM0 c b):=by have k:=h.n1;have j:=aG a.2.2;have i:=Gp (K:=endF env ⟨.leaf,0⟩ [] [] [] λv1 e=>v1=leV c.length b.length/\e=hM0 c b) g (Gn (Q:=λv1 e=>v1=leV c.length b.length/\e=hM0 c b) g ⟨rfl,rfl⟩ (R:=R) m ⟨_,f,rfl,rfl,rfl,rfl⟩);have l:=jLe_nf (endF env ⟨.leaf,0⟩ [] [] [] λv1 e=>v1=leV c.length b.length/\e=hM0 c b) (leO a L R c b);refine aC g.X (d:=1) (ns:=[]) (zs:=[]) (ws:=[]) (Eq.mpr l ?_);have ev:(leO a L R c b).nx=a.2.2:=rfl;rw[ev,j];rw[ev]at i;simp only[D'];rw[dE];refine⟨⟨.dat (ax _),.dat (aq _),ab _,rfl⟩,⟨by omega,by omega,by omega,by omega⟩,.dat (ax _),.dat (aq _),ab _,ab _,?_⟩;exact i
theorem vW{a:AU}(h:OkL a):WalkF env f28 [auV a] ⟨.leaf,0⟩ (leV (reA a).length (reR a).length) (hM0 (reA a) (reR a)):=by
 have d:=RAL.of h;have k:=d.len;have p:=h.n1;have c:=rfE_nm h;have m:rfC (dA a) (acN a.2.1) a.1.toNat=(rfE a).1:=by unfold rfC rfE;exact Ig _
 have q:rndM (dA a) 256 (rfL (dA a) a.1.toNat) 90003 (ac01 (acN a.2.1)) 0=rfE a:=by unfold rfE;exact Ig _
 have b:=nu_rf (a:=a) (n:=(rfE a).2) (cl:=clL a.2.2.length (rfL (dA a) a.1.toNat) (rfE a).1);rw[m]at b;have b:=b c;have j:=nu_tab (a:=a) (l:=rfL (dA a) a.1.toNat) (n:=(rfE a).2) (f:=(rfE a).1);rw[b.1,b.2]at j;have o:=mt_tab h;have g:=d.ei.inp;have i:=d.cl;have e:=List.ne_nil_of_mem d.mem;show WalkF env _ _ _ (leV (rfA (dA a) (acN a.2.1) a.1.toNat).length ((rfT (dA a) (acN a.2.1) a.1.toNat).map inF).length) (hM0 (rfA (dA a) (acN a.2.1) a.1.toNat) ((rfT (dA a) (acN a.2.1) a.1.toNat).map inF));clear b m;generalize rfA (dA a) (acN a.2.1) a.1.toNat=ra at*;generalize (rfT (dA a) (acN a.2.1) a.1.toNat).map inF=rn at*;generalize rfE a=R at*;generalize rfL (dA a) a.1.toNat=L at*;exact le_gen h (leO_ok h o j g i e (by omega)) c q
def spLe(P:Value->Prop)(ra:Li)(rn:La):Lh->List AObj->Option (Ll×Value×List AObj)
 | [u],[]=>some (some (P u),leV ra.length rn.length,[groB ra,groR rn])
 |_,_=>none
theorem le_tab{a:AU}(h:OkL a):∀ args A p v A',frmR noAr (spLe (λu=>u=auV a) (reA a) (reR a)) args A=some (p,v,A')->PH p->CallAt env 28 args A v A':=aS ai (fn:=f28) rfl λargs d p v c b e=>by unfold spLe at b;split at b;rename_i u;cases b;obtain rfl:u=auV a:=e;have:=vW h;rw[<-wD]at this;exact this;cases b
theorem DL:∀ args A p v A',frmR noAr (spLe (λ_=>False) [] []) args A=some (p,v,A')->PH p->CallAt env 28 args A v A':=aS ai (fn:=f28) rfl λargs c p v b a d=>by unfold spLe at a;split at a;cases a;exact False.elim d;cases a
end
end Go.T9
