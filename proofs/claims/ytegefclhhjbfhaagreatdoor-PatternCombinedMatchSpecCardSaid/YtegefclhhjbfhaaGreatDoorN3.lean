/- A part of the proof. -/
import Derived.Test.YtegefclhhjbfhaaGreatDoorN2
set_option linter.unusedVariables false
set_option linter.unusedSimpArgs false
set_option maxRecDepth 1000000
set_option maxHeartbeats 2000000
namespace Go.T9
open Go Go.AM Go.MK Go.Proofs.Tryz
noncomputable section
abbrev Lm:=λa=>rhoX [(0,0),(1,1),(3,3),(4,4),(5,5),(6,6),(7,7),(12,12),(13,13)] a
variable {H:HH}{o st wk:Le}{js:Lg}{i n0 wc:Nat}{S:QS}{t0:T AObj}
theorem Nb(k:KF)(o:Le)(c f:Lh)(e:Le)(h:Ents)(d:Nat)(b:Le)(l:Ents)(n:Nat)(m:Le)(i:Nat->Option AObj)(g:Nat->Option AObj)(j:Nat->Option AObj)(a:Nat->Lk):jQtE k o c f e h d b l n m i g j a=((L_ (Lm a) (f_ o)/\L_ (Lm a) (f_ e)/\L_ (Lm a) (Kr h d)/\ROX (Lm a) (l_ c 49) (l_ f 49)/\L_ (Lm a) (f_ b)/\True)/\IdTo 9 (Lm a)/\RQ [(0,0),(1,1),(3,3),(4,4),(5,5),(6,6),(7,7),(12,12),(13,13)] a [2,8] 8388544/\(Ly (Lm a) [([true,true,true,true,true,true],i),([false,false,false,false,false,false],g)] j/\FQ (Lm a) [([true,true,true,true,true,true],i),([false,false,false,false,false,false],g)] [false,false,false,false,false,false] (λ(x:Nat)=>none) []/\True)/\k (Sg LF) (K_ (Ns (Kw (Kw (w_ (T.fn j)) (m_ [g_ 13 0 b.length] 49)) (f_ e)) (f_ o) (Ns Lf (Kr h d) (Lp b))) (KO 1 0 o.length 12 c.length 85) (No (Ns Lf (m_ [D_ 5] 127) (Lu f 49)) (Ns Lf (m_ [i_] 82) (z_ (No Lf (T.fn λ(x:Nat)=>none))))) 8388544)):=by kernel_rfl
theorem DY:type_of%(by have h:=@Nb;revert h;delta b_ f_ g_ i_ l_ m_ w_ z_ D_ K_ L_ Kr Kw KO Lm Lp Lu Ly LF;exact id):=@Nb
abbrev Lo:=λa=>rhoX [(0,0),(1,1),(3,3),(4,4),(5,5),(6,6),(7,7),(12,2),(13,8)] a
theorem Nc(h:KF)(o:Le)(c:Lh)(f:Le)(g:Ents)(e:Nat)(d:Le)(b:Nat->Option AObj)(a:Nat->Lk):jQtF h o c f g e d b a=((L_ (Lo a) (f_ o)/\L_ (Lo a) (f_ f)/\L_ (Lo a) (Kr g e)/\L_ (Lo a) (l_ c 49)/\L_ (Lo a) (f_ d)/\True)/\IdTo 9 (Lo a)/\RQ [(0,0),(1,1),(3,3),(4,4),(5,5),(6,6),(7,7),(12,2),(13,8)] a [2,8] 8388544/\(Ly (Lo a) [([true,true,true,true,true,true],b),([false,false,false,false,false,false],λ(x:Nat)=>none)] b/\FQ (Lo a) [([true,true,true,true,true,true],b),([false,false,false,false,false,false],λ(x:Nat)=>none)] [false,false,false,false,false,false] (λ(x:Nat)=>none) []/\True)/\h (Sg LF) (K_ (Ns (Kw (Kw (w_ (T.fn b)) (m_ [g_ 13 0 d.length] 49)) (f_ f)) (f_ o) (Ns Lf (Kr g e) (Lp d))) (KO 1 0 o.length 12 c.length 85) (No (Ns Lf (m_ [D_ 5] 127) (Lu c 49)) (Ns Lf (m_ [i_] 82) (z_ (No Lf (T.fn λ(x:Nat)=>none))))) 8388544)):=by kernel_rfl
theorem DX:type_of%(by have h:=@Nc;revert h;delta b_ f_ g_ i_ l_ m_ w_ z_ D_ K_ L_ Kr Kw KO Lo Lp Lu Ly LF;exact id):=@Nc
def bU(H:HH)(S:QS):La:=S.mem++S.js.map λj=>(aK H).getD j []
def hE(b:Le)(o:Le)(a:La)(W:List (Int×Bool×Nat))(d:Nat)(c:Le):AH:=hQ (liE o (sls (memN a)) b (esW W) d c) (ah a) (λ_=>none) 8388544
def fE(a:Nat)(b:Lg)(i:Nat):Lk:=if i<a then some (T.numF pM i)else(b[i-a]?).map (T.numF pH)
def rE(a:Nat)(b:Lg):Nat->Lk:=rho2 pM (fE a b) pH (λ_=>none)
theorem pu{B x:Nat}(h:rE n0 js B=some x):∃ i,B=64*i+63/\((i<n0/\x=64*i+63)∨(n0<=i/\∃ d:i-n0<js.length,x=64*js[i-n0]+126)):=by rcases nR h with⟨i,b,a⟩|⟨i,b,a⟩;rw[numM]at b;unfold fE at a;split at a;rename_i c;cases a;exact⟨i,b,.inl ⟨c,numM i⟩⟩;grind [J6,Hx,numH];cases a
theorem rE_M(h:i<n0):rE n0 js (T.numF pM i)=some (T.numF pM i):=qT (by unfold fE;rw[Ht h])
theorem rE_H{u:Nat}(h:u<js.length):rE n0 js (T.numF pM (n0+u))=some (T.numF pH js[u]):=qT (by simp_all [fE,Hm,J3,Hr])
theorem nd_inj{l:Lg}(h:l.Nodup){j:Nat}(b:i<l.length)(a:j<l.length)(e:l[i]=l[j]):i=j:=by grind [List.pairwise_iff_getElem,Nat.lt_trichotomy,absurd]
theorem RQ_rE{m:Ld}(c:(m.all λx=>okN 20 21 x.2)=true)(g:n0+js.length<=131000)(f:∀ j∈js,j<=100000)(e:js.Nodup):RQ m (rE n0 js) [] 8388544:=by refine⟨λd B h=>?_,λp n B _ _ l k=>?_,λx b d _ h=>?_⟩;grind [pu];grind [pu,nd_inj];have a:=HV.1 c x b;have a:=odt a;grind [pu]
theorem idQE{a b:Nat}(ρ:Nat->Lk):IdTo 9 (rhoX (mE a b) (rD ρ)):=λB c=>by
 have:B=0∨B=1∨B=2∨B=3∨B=4∨B=5∨B=6∨B=7∨B=8:=by omega
 rcases this with rfl|rfl|rfl|rfl|rfl|rfl|rfl|rfl|rfl<;>rfl
theorem b9?{mem:La}(h:i<mem.length):(memN mem)[i]? =some (T.numF pM i,mem[i].length):=by grind [memN,JN,Hr]
theorem cC(H:HH)(S:QS):(bU H S).length=S.mem.length+S.js.length:=by unfold bU;grind
theorem vp(h:i<S.mem.length):(bU H S)[i]? =some S.mem[i]:=by grind [bU,Ib,Hr]
theorem vq{u:Nat}(h:u<S.js.length):(bU H S)[S.mem.length+u]? =some ((aK H).getD S.js[u] []):=by grind [bU,Ip,J3,HU,Hr]
theorem cV{ρ:Nat->Lk}{a:FamL}{p:Li}{l:List (Nat×Nat×AObj)}:FQ ρ a p (λ_=>none) l:=λi b h=>by cases h
theorem end_Q{N w0:Nat}(l:SI N n0 w0 i S)(w:i<=H.length)(v:n0+S.js.length<=131000)(x:H.length<=100000):Turns env ⟨t0,9⟩ 1 frE (hL2 H st S) frE (hE st S.o (bU H S) S.W S.wc S.wk):=by
 have q:=l.n0;have r:=l.jl;have g:okB (mE 12 13)=true:=by kernel_rfl
 have c:∀ t,t<S.mem.length->rhoX (mE 12 13) (rD (rE S.mem.length S.js)) (T.numF pM t)=some (T.numF pM t):=λt h=>(ce g _ t).trans ((rD_M _ t).trans (rE_M h));have d:∀ u (h:u<S.js.length),rhoX (mE 12 13) (rD (rE S.mem.length S.js)) (T.numF pM (S.mem.length+u))=some (T.numF pH S.js[u]):=λu h=>(ce g _ _).trans ((rD_M _ _).trans (rE_H h));have p:∀ u (h:u<S.js.length),S.js[u]<H.length:=λu h=>by have:=l.jm _ (Hq h);omega
 have k:(sls (memN (bU H S))).length=(sls (elN S.mem H S.js)).length:=by rw[bj,bj,aO,cC,dG]
 obtain⟨y,z,⟨rfl,rfl⟩,m⟩:=bi (E:=env) am (A0:=⟨t0,9⟩) (n:=1) (λF A=>F=frE/\A=hE st S.o (bU H S) S.W S.wc S.wk) frE (hL2 H st S) ((DY _ S.o (sls (elN S.mem H S.js)) (sls (memN (bU H S))) st (esW S.W) S.wc S.wk (esS (hmL H)) H.length (aJ H) (ah S.mem) (ah (aK H)) (ah (bU H S)) (rD (rE S.mem.length S.js))).mpr (by
  refine⟨⟨ak _ _,ak _ _,dy _ _ _,dz (by rw[aO,cC,dG]) ?_,ak _ _,trivial⟩,idQE _,ur (by omega) (RQ_rE (by kernel_rfl) (by omega) (λj h=>by have:=l.jm j h;omega) l.nd),⟨?_,cV,trivial⟩,show _=_/\_=_ from⟨by kernel_rfl,?_⟩⟩;intro t h;rw[dG]at h;rcases fw h with a|⟨u,a,rfl⟩;have b:t<(bU H S).length:=by rw[cC];omega
  have e:=vp (H:=H) a;rw[Hr b]at e;exact⟨T.numF pM t,T.numF pM t,S.mem[t].length,mZ a,by rw[b9? b,Iw e],c t a⟩;have b:S.mem.length+u<(bU H S).length:=by rw[cC];omega
  have e:=vq (H:=H) a;rw[Hr b]at e;exact⟨T.numF pH S.js[u],T.numF pM (S.mem.length+u),((aK H).getD S.js[u] []).length,qk a,by rw[b9? b,Iw e],d u a⟩;intro t s m;obtain⟨b,rfl⟩:=bu m;have f:=b;rw[cC]at f;rcases fw f with a|⟨u,a,rfl⟩;have e:=vp (H:=H) a;rw[Hr b]at e;exact .inr ⟨(pM,ah S.mem),t,_,by simp[pM],c t a,bK a,by rw[Iw e];exact ak _ _⟩;have e:=vq (H:=H) a;rw[Hr b]at e;refine .inr ⟨(pH,ah (aK H)),S.js[u],_,by simp[pH],d u a,bK (by rw[bh];exact p u a),?_⟩;rw[Iw e,iE (p u a),jn (p u a)];exact ak _ _;have e:hE st S.o (bU H S) S.W S.wc S.wk=hQ [(0,.cells [groS 1 S.o.length,groS 12 (sls (elN S.mem H S.js)).length] 85),(1,groI S.o),(3,groI st),(4,.cells [.map (some 5)] 127),(5,.map (esW S.W) S.wc),(6,.cells [.pointer (some ⟨0,0,none⟩)] 82),(7,.cells [groS 13 S.wk.length] 49),(12,groE (sls (memN (bU H S)))),(13,groI S.wk)] (ah (bU H S)) (λ_=>none) 8388544:=by unfold hE liE;rw[k]
  exact Eq.trans (by kernel_rfl) e.symm))
 exact m
def hF(o st:Le)(a:La)(W:List (Int×Bool×Nat))(c:Nat)(b:Le):AH:=hQ (liQ o (sls (memN a)) st (esW W) c b++[(8388544,.cells [.pointer (some ⟨0,0,none⟩)] 82)]) (ah a) (λ_=>none) 8388545
theorem end_F{mem:La}{W:List (Int×Bool×Nat)}(d:mem.length<=100000):Turns env ⟨t0,9⟩ 1 frE (hF o st mem W wc wk) frE (hE st o mem W wc wk):=by
 have b:okB (mE 2 8)=true:=by kernel_rfl
 have a:∀ t,t<mem.length->rhoX (mE 2 8) (rD (rE mem.length [])) (T.numF pM t)=some (T.numF pM t):=λt h=>(ce b _ t).trans ((rD_M _ t).trans (rE_M h));obtain⟨e,f,⟨rfl,rfl⟩,c⟩:=bi (E:=env) am (A0:=⟨t0,9⟩) (n:=1) (λF A=>F=frE/\A=hE st o mem W wc wk) frE (hF o st mem W wc wk) ((DX _ o (sls (memN mem)) st (esW W) wc wk (ah mem) (rD (rE mem.length []))).mpr ⟨⟨ak _ _,ak _ _,dy _ _ _,dX a,ak _ _,trivial⟩,idQE _,ur (by omega) (RQ_rE (by kernel_rfl) (by grind) (λj h=>by cases h) List.nodup_nil),⟨nz (by simp[pM]) a,cV,trivial⟩,by kernel_rfl,by kernel_rfl⟩);exact c
theorem Gh(mem:La)(H:HH):elN mem H []=memN mem:=by unfold elN frN;simp
def frP1(n:Nat):T Value:=(Nd (Nd (Nd (Nd Lf (some (groS 8388546 0)) (Nd Lf (some (.int .i64 0)) Lf)) (some (.pointer (some ⟨8388544,0,none⟩))) Lf) none (Nd Lf none (Nd (Nd Lf (some (groS 3 n)) Lf) none Lf))) none (Nd Lf (some (cCut 4 6 7)) (Nd Lf (some (.map (some 8388545))) (Nd (Nd Lf (some (.int .i64 n)) Lf) none Lf))))
def hP1(o:Le)(a:La)(b:Le)(W:List (Int×Bool×Nat))(d:Nat)(c:Le):AH:=hQ (liQ o (sls (memN a)) b (esW W) d c++[(8388544,.cells [.pointer (some ⟨0,0,none⟩)] 82),(8388545,.map [] 0),(8388546,.gro [] [] 3)]) (ah a) (λ_=>none) 8388547
theorem turn1{mem:La}{W:List (Int×Bool×Nat)}(d:mem.length<=100000):Turns env ⟨t0,9⟩ nQ (frP1 st.length) (hP1 o mem st W wc wk) (frQ1 st.length 0 0) (hL1 o mem st W wc wk []):=by
 have b:okB (mQ [(9,8388544),(10,8388545),(11,8388546)])=true:=by kernel_rfl
 have a:∀ t,t<mem.length->rhoX (mQ [(9,8388544),(10,8388545),(11,8388546)]) (rQ mem.length mem.length 20 0 0 21) (T.numF pM t)=some (T.numF pM t):=λt h=>(ce b _ t).trans (i7 (by omega) h);obtain⟨e,f,⟨rfl,rfl⟩,c⟩:=bi (E:=env) am (A0:=⟨t0,9⟩) (n:=nQ) (λF A=>F=frQ1 st.length 0 0/\A=hL1 o mem st W wc wk []) (frP1 st.length) (hP1 o mem st W wc wk) ((D0 _ o (sls (memN mem)) st (esW W) wc wk (ah mem) (rQ mem.length mem.length 20 0 0 21)).mpr ⟨⟨ak _ _,dX a,ak _ _,dy _ _ _,ak _ _,.of (.map .nil),ak _ [],trivial⟩,idQ _ _,kR (by kernel_rfl) (by kernel_rfl) (by kernel_rfl) (by omega) (by omega) (by omega) (by omega) (by omega) (by omega) (by omega),⟨nz (by simp[pM]) a,cV,trivial⟩,by kernel_rfl,by kernel_rfl⟩);exact c
theorem turn2{mem:La}{W:List (Int×Bool×Nat)}(f:mem.length<=100000)(g:H.length<=100000):Turns env ⟨t0,9⟩ nQ (frQ2 (aJ H).length 0) (hL1 o mem st W wc wk H) (frQ2 (aJ H).length 0) (hL2 H st ⟨o,mem,[],W,wc,wk⟩):=by
 have c:okB (mQ2 [(12,2),(13,8)])=true:=by kernel_rfl
 have a:∀ t,t<mem.length->rhoX (mQ2 [(12,2),(13,8)]) (rD (rQ mem.length mem.length 20 H.length H.length 21)) (T.numF pM t)=some (T.numF pM t):=λt h=>(ce c _ t).trans ((rD_M _ t).trans (i7 (by omega) h));have b:∀ t,t<H.length->rhoX (mQ2 [(12,2),(13,8)]) (rD (rQ mem.length mem.length 20 H.length H.length 21)) (T.numF pH t)=some (T.numF pH t):=λt h=>(iP c _ t).trans ((rD_H _ t).trans (nW (by omega) h));have e:hL2 H st ⟨o,mem,[],W,wc,wk⟩=hQ (liQ2 o (sls (memN mem)) st (esW W) wc wk (esS (hmL H)) H.length (aJ H)) (ah mem) (ah (aK H)) 8388544:=by unfold hL2;show hQ (liQ2 o (sls (elN mem H [])) st (esW W) wc wk (esS (hmL H)) H.length (aJ H)) (ah mem) (ah (aK H)) 8388544=_;rw[Gh]
 rw[e];obtain⟨j,k,⟨rfl,rfl⟩,d⟩:=bi (E:=env) am (A0:=⟨t0,9⟩) (n:=nQ) (λF A=>F=frQ2 (aJ H).length 0/\A=hQ (liQ2 o (sls (memN mem)) st (esW W) wc wk (esS (hmL H)) H.length (aJ H)) (ah mem) (ah (aK H)) 8388544) (frQ2 (aJ H).length 0) (hL1 o mem st W wc wk H) ((DZ _ o (sls (memN mem)) st (esW W) wc wk (esS (hmL H)) H.length (aJ H) (ah mem) (ah (aK H)) (rD (rQ mem.length mem.length 20 H.length H.length 21))).mpr ⟨⟨ak _ _,ak _ _,dy _ _ _,ip rfl (λt h=>⟨H[t]'(by rw[<-bV H];exact h) |>.1,T.numF pH t,T.numF pH t,(H[t]'(by rw[<-bV H];exact h)).2.length,t,cq (by rw[<-bV H];exact h),cq (by rw[<-bV H];exact h),b t (by rw[<-bV H];exact h)⟩),ak _ _,dX a,ak _ _,trivial⟩,idQ2 _ (by kernel_rfl) (by kernel_rfl),ur (by omega) (kR (by kernel_rfl) (by kernel_rfl) (by kernel_rfl) (by omega) (by omega) (by omega) (by omega) (by omega) (by omega) (by omega)),⟨nz (by simp[pM]) a,nz (by simp[pH]) (λt h=>b t (by rw[<-bh H];exact h)),trivial⟩,by kernel_rfl,by kernel_rfl⟩);exact d
theorem By{P Q:Int->Prop}{b s:Int}(d:P b)(c:Q s):∀ {H:HH},(∀x∈H,P x.1/\∀ y∈x.2,Q y)->∀ x∈hAdd b s H,P x.1/\∀ y∈x.2,Q y
 | [],h,x,a=>by grind [hAdd]
 |z::H,h,x,a=>by have a:x∈(if z.1=b then(b,z.2++[s])::H else z::hAdd b s H):=a;split at a;grind;rcases HE.1 a with e|e;grind;exact By d c (λx a=>h x (HO _ a)) x e
theorem Bw{P Q:Int->Prop}{o:Le}:∀ {l:Le}{H:HH},(∀s∈l,P (o.getD s.toNat 0)/\Q s)->(∀x∈H,P x.1/\∀ y∈x.2,Q y)->∀ x∈hAll o l H,P x.1/\∀ y∈x.2,Q y
 | [],H,_,h=>h
 |s::l,H,hl,h=>Bw (l:=l) (λt a=>hl t (HO _ a)) (By (hl s HT).1 (hl s HT).2 h)
def qEnd(o b:Le)(a:La)(W:List (Int×Bool×Nat))(d:Nat)(c:Le):QS:=qAll 0 (hAll o b []) ⟨o,a,[],W,d,c⟩
def hEnd(o a:Le)(b:La)(W:List (Int×Bool×Nat))(d:Nat)(c:Le):AH:=hE a (qEnd o a b W d c).o (bU (hAll o a []) (qEnd o a b W d c)) (qEnd o a b W d c).W (qEnd o a b W d c).wc (qEnd o a b W d c).wk
def hBeg(o st:Le)(a:La)(W:List (Int×Bool×Nat))(wc:Nat)(wk:Le):AH:=hQ (liQ o (sls (memN a)) st (esW W) wc wk) (ah a) (λ_=>none) 8388544
theorem kV{mem:La}{W:List (Int×Bool×Nat)}(g:∀ s∈st,0<=s/\s<o.length)(C:∀ x∈o,0<=x/\x<mem.length)(q:∀ r∈mem,r.length<=100000/\∀ x∈r,0<=x/\x<(o.length:Int))(A:o.length<=100000)(D:st.length<=100000)(m:mem.length<=100000)(n:wk.length<=500000)(u:mem.length+(qEnd o st mem W wc wk).js.length<=131000):
 WalkK env f77 9 [.pointer (some ⟨0,0,none⟩),groS 3 st.length,cCut 4 6 7] (hBeg o st mem W wc wk) (.tuple ⟨[]⟩) (hEnd o st mem W wc wk):=by
 have v:(hBeg o st mem W wc wk).next=8388544:=by kernel_rfl
 refine tb XQ_ok (d:=1) (k:=9) (by rw[v];omega) ((jQ0_nf _ (hBeg o st mem W wc wk).t o (sls (memN mem)) st (esW W) wc wk (ah mem)).mpr (Sp.intro (λc=>?_) (λc=>?_)));have c:=odt c;have:st=[]:=H0 (by omega);subst this;have e:hEnd o [] mem W wc wk=hE [] o mem W wc wk:=by show hE [] o (mem++[]) W wc wk=_;rw[Hu]
 rw[e];exact⟨frE,frE,by kernel_rfl,by kernel_rfl,Eq.mp (by kernel_rfl) (end_F (t0:=(hBeg o [] mem W wc wk).t) (o:=o) (st:=[]) (W:=W) (wc:=wc) (wk:=wk) m)⟩;refine Di (o:=o) (st:=st) (mem:=mem) (W:=W) (wc:=wc) (wk:=wk) g (by omega) (by omega) (λf=>?_) (Turns.trans (Turns.pick slQ1 (F1:=frP1 st.length) (by kernel_rfl)) (Eq.mp (by kernel_rfl) (turn1 (t0:=(hBeg o st mem W wc wk).t) (o:=o) (st:=st) (W:=W) (wc:=wc) (wk:=wk) m)));have E:=f.len;have h:=Bw (P:=λb=>0<=b/\b<(mem.length:Int)) (Q:=λs=>0<=s/\s<(o.length:Int)) (o:=o) (l:=st) (H:=[]) (λs p=>⟨by grind [gD,Hq],g s p⟩) (λx a=>by cases a)
 have z:HP o.length mem.length (hAll o st []):=⟨λx a=>(h x a).1,λx a=>by have:=f.le x a;omega,λx a=>(h x a).2⟩;have B:SI o.length mem.length wk.length 0 ⟨o,mem,[],W,wc,wk⟩:=⟨rfl,rfl,by simp,(λj w=>by cases w),q,by simp,List.nodup_nil⟩;refine Dh f.nd z A m (by omega) n B (λy=>⟨frE,frE,by kernel_rfl,by kernel_rfl,end_Q y (Hw _) u (by omega)⟩) (Turns.trans (Turns.pick slQ2 (F1:=frQ2 (aJ (hAll o st [])).length 0) (by kernel_rfl)) (turn2 m (by omega)))
end
end Go.T9
set_option maxHeartbeats 1000000
namespace Go.T9
open Go Go.AM Go.MK
noncomputable section
abbrev _root_.Go.Jn:=@List.not_mem_nil
def pL:Li:=[false,false,false,false,false,false,false,false,false,false,false,false,false,false,false,false,false,false,false,false,false,false,false]
variable {B i n:Nat}
theorem numL(i:Nat):T.numF pL i=8388608*i+16777214:=by simp[pL,T.numF];omega
theorem rT{a:List (Nat×AObj)}{j c:Nat->Option AObj}{nx:Nat}{o:AObj}(h:(hQ a j c nx).t.get B=some o):(B,o)∈a∨(∃i,B=T.numF pM i/\j i=some o)∨(∃i,B=T.numF pH i/\c i=some o):=by unfold hQ at h;split at h;rename_i t q;split at h;rename_i k f;have b:(match iO [(pH,c)] t with|some d=>T.setFn pM d j|none=>none)=some k:=f;split at b;rename_i d e;have p:T.setFn pH t c=some d:=e;have h:k.get B=some o:=h;by_cases m:T.InF pM B;obtain⟨i,rfl⟩:=m;rw[JK b]at h;grind;rw[JB b B m]at h;by_cases l:T.InF pH B;obtain⟨i,rfl⟩:=l;rw[JK p]at h;grind;rw[JB p B l]at h;rcases dD q h with g|g;exact .inl g;simp[T.get]at g;cases b;simp[T.get]at h;simp[T.get]at h
def liG(o:Le)(els:Lh)(st:Le)(wes:Ents)(wc:Nat)(wk:Le):List (Nat×AObj):=
 [(4,.cells [groS 5 o.length,groS 6 els.length] 85),(5,groI o),(6,groE els),(14,groI st),(10,.cells [.map (some 11)] 127),(11,.map wes wc),(7,.cells [.pointer (some ⟨4,0,none⟩)] 82),(8,.cells [groS 9 wk.length] 49),(9,groI wk)]
def liA(o:Le)(els:Lh)(st:Le)(wes:Ents)(wc:Nat)(wk:Le):List (Nat×AObj):=
 [(4,.cells [groS 5 o.length,groS 9000000 els.length] 85),(5,groI o),(14,groI st),(10,.cells [.map (some 11)] 127),(11,.map wes wc),(7,.cells [.pointer (some ⟨4,0,none⟩)] 82),(8,.cells [groS 9000001 wk.length] 49),(9000000,groE els),(9000001,groI wk)]
def memL(a:La):Ld:=a.mapIdx λi r=>(T.numF pL i,r.length)
theorem dm(mem:La):(memL mem).length=mem.length:=JX
theorem pE{mem:La}(h:i<mem.length):(memL mem)[i]? =some (T.numF pL i,mem[i].length):=by grind [memL,JN,Hr]
def tP(lits:List (Nat×AObj))(p:Li)(g:Nat->Option AObj):T AObj:=match ofL lits .leaf with
 | some t=>(match T.setFn p t g with
   |some t1=>t1
   |none=>.leaf)
 |none=>.leaf
theorem Ay{a:List (Nat×AObj)}{p:Li}{g:Nat->Option AObj}{o:AObj}(h:(tP a p g).get B=some o):(B,o)∈a∨∃ i,B=T.numF p i/\g i=some o:=by unfold tP at h;split at h;rename_i t e;split at h;rename_i f d;by_cases c:T.InF p B;obtain⟨i,rfl⟩:=c;rw[JK d]at h;exact .inr ⟨i,rfl,h⟩;rw[JB d B c]at h;rcases dD e h with b|b;exact .inl b;simp[T.get]at b;simp[T.get]at h;simp[T.get]at h
def hAft(o st:Le)(mem:La)(W:List (Int×Bool×Nat))(wc:Nat)(wk:Le)(keep:List (Nat×AObj)):AH:=
 ⟨tP (liA (qEnd o st mem W wc wk).o (sls (memL (bU (hAll o st []) (qEnd o st mem W wc wk)))) st (esW (qEnd o st mem W wc wk).W) (qEnd o st mem W wc wk).wc (qEnd o st mem W wc wk).wk++keep) pL (ah (bU (hAll o st []) (qEnd o st mem W wc wk))),800000000000⟩
structure SpOk (o st:Le) (mem:La) (W:List (Int×Bool×Nat)) (wc:Nat) (wk:Le):Prop where
 hst:∀ s∈st,0<=s/\s<(o.length:Int)
 ho:∀ x∈o,0<=x/\x<(mem.length:Int)
 hr:∀ r∈mem,r.length<=100000/\∀ x∈r,0<=x/\x<(o.length:Int)
 hN:o.length<=100000
 hn:st.length<=100000
 hm:mem.length<=100000
 hw:wk.length<=500000
 hj:mem.length+(qEnd o st mem W wc wk).js.length<=95000
def getL(t:T AObj)(l:Lg):List (Option AObj):=l.map t.get
theorem gW{t:T AObj}:∀ {l:List (Nat×AObj)},getL t (l.map (·.1))=l.map (λx=>some x.2)->∀ x∈l,t.get x.1=some x.2
 | [],_,x,hx=>by cases hx
 |y::l,h,x,hx=>by have h:t.get y.1::getL t (l.map (·.1))=some y.2::l.map (λx=>some x.2):=h;rw[Ju]at h;rcases HE.1 hx with e|e;rw[e];exact h.1;exact gW h.2 x e
def rC(a:List (Nat×AObj)):Bool:=a.all λx=>decide (x.1<=13/\x.1≠4/\x.1≠5/\x.1≠6/\x.1≠7/\x.1≠8/\x.1≠9/\x.1≠10/\x.1≠11)
def spDv(o st:Le)(mem:La)(W:List (Int×Bool×Nat))(wc:Nat)(wk:Le)(keep:List (Nat×AObj)):RunF:=λargs A=>
 some (some (args=[.pointer (some ⟨4,0,none⟩),groS 14 st.length,cCut 10 7 8]/\(Nat.ble A.next 8388606&&rC keep)=true/\getL A.t ((liG o (sls (memN mem)) st (esW W) wc wk).map (·.1))=(liG o (sls (memN mem)) st (esW W) wc wk).map (λx=>some x.2)/\getL A.t (keep.map (·.1))=keep.map (λx=>some x.2)/\T.getFn pM A.t=some (ah mem)/\SpOk o st mem W wc wk),
  .tuple ⟨[]⟩,hAft o st mem W wc wk keep)
def mG:Ld:=[(0,4),(1,5),(2,6),(3,14),(4,10),(5,11),(6,7),(7,8),(8,9)]
def mG2:Ld:=[(4,0),(5,1),(14,3),(10,4),(11,5),(7,6),(8,7),(9000000,12),(9000001,13)]
def fG(p:Li)(n i:Nat):Lk:=if i<n then some (T.numF p i)else none
def rG(n:Nat):Nat->Lk:=rhoX mG (rhoP pM (fG pM n))
def rG2(n:Nat):Nat->Lk:=rhoX mG2 (rhoP pL (fG pM n))
theorem qe{p:Li}{x:Nat}(h:fG p n i=some x):i<n/\x=T.numF p i:=by unfold fG at h;split at h;rename_i e;cases h;exact⟨e,rfl⟩;cases h
theorem mb(h:rG n i=some B):(i,B)∈mG∨∃ t,t<n/\i=64*t+63/\B=64*t+63:=by unfold rG rhoX at h;split at h;rename_i x a;cases h;exact .inl (ba a);obtain⟨t,e,d⟩:=dM h;obtain⟨c,b⟩:=qe d;exact .inr ⟨t,c,by rw[e,numM],by rw[b,numM]⟩
theorem je(h:rG2 n B=some i):(B,i)∈mG2∨∃ t,t<n/\B=8388608*t+16777214/\i=64*t+63:=by unfold rG2 rhoX at h;split at h;rename_i x a;cases h;exact .inl (ba a);obtain⟨t,e,d⟩:=dM h;obtain⟨c,b⟩:=qe d;exact .inr ⟨t,c,by rw[e,numL],by rw[b,numM]⟩
theorem tG(h:(i,B)∈mG):(i=0/\B=4)∨(i=1/\B=5)∨(i=2/\B=6)∨(i=3/\B=14)∨(i=4/\B=10)∨(i=5/\B=11)∨(i=6/\B=7)∨(i=7/\B=8)∨(i=8/\B=9):=by simpa[mG]using h
theorem j8(h:(B,i)∈mG2):(B=4/\i=0)∨(B=5/\i=1)∨(B=14/\i=3)∨(B=10/\i=4)∨(B=11/\i=5)∨(B=7/\i=6)∨(B=8/\i=7)∨(B=9000000/\i=12)∨(B=9000001/\i=13):=by simpa[mG2]using h
theorem rG_M{t:Nat}(h:t<n):rG n (T.numF pM t)=some (T.numF pM t):=by unfold rG;rw[ce (by kernel_rfl),ir];unfold fG;rw[Ht h]
theorem nP{m:Ld}{ρ:Nat->Lk}(h:back m B=none):rhoX m ρ B=ρ B:=by unfold rhoX;rw[h]
theorem rG2_L{t:Nat}(h:t<n):rG2 n (T.numF pL t)=some (T.numF pM t):=by
 have a:back mG2 (T.numF pL t)=none:=kJ λx b e=>by grind [j8,numL]
 unfold rG2;rw[nP a,ir];unfold fG;rw[Ht h]
theorem rV(b s:Int):∀ (H:HH),(hAdd b s H).length<=H.length+1
 | []=>by simp[hAdd]
 |x::H=>by show(if x.1=b then(b,x.2++[s])::H else x::hAdd b s H).length<=_;split;simp;have:=rV b s H;grind
theorem mJ(o:Le):∀ (l:Le) (H:HH),(hAll o l H).length<=H.length+l.length
 | [],H=>Hw _
 |s::l,H=>by have a:=mJ o l (hAdd (o.getD s.toNat 0) s H);grind [rV,hAll,hAdd,HW]
theorem vo(S:QS)(i b:Nat)(r:Le):(ff S i b r).mem.length=S.mem.length/\(ff S i b r).js.length<=S.js.length+1:=by unfold ff;split;exact⟨rfl,by omega⟩;exact⟨Hz,by show(S.js++[i]).length<=_;rw[E'];simp⟩
theorem jg:∀ (H:HH) (i:Nat) (S:QS),(qAll i H S).mem.length=S.mem.length/\(qAll i H S).js.length<=S.js.length+H.length
 | [],i,S=>⟨rfl,Hw _⟩
 |x::H,i,S=>by obtain⟨b,a⟩:=jg H (i+1) (ff S i x.1.toNat x.2);grind [vo,qAll,ff,HW]
theorem dv_tab(o st:Le)(mem:La)(W:List (Int×Bool×Nat))(wc:Nat)(wk:Le)(g:List (Nat×AObj)):∀ args A p v A',spDv o st mem W wc wk g args A=some (p,v,A')->PH p->CallAt env 77 args A v A':=by
 intro args A p v A' h E;unfold spDv at h;cases h;obtain⟨rfl,y,K,H,L,b⟩:=E;simp only[f',HA]at y;obtain⟨F,s⟩:=y;have u:=gW H;have d:=gW K;have Q:hBeg o st mem W wc wk=⟨(hBeg o st mem W wc wk).t,8388544⟩:=by kernel_rfl
 have q:=(kV (W:=W) (wc:=wc) b.hst b.ho b.hr b.hN (by have:=b.hn;omega) (by have:=b.hm;omega) b.hw (by have:=b.hj;omega)).call ai (f:=77) rfl;rw[Q]at q;have r:=jg (hAll o st []) 0 ⟨o,mem,[],W,wc,wk⟩;have I:=mJ o st [];have z:(bU (hAll o st []) (qEnd o st mem W wc wk)).length<=95000:=by rw[cC];have c:(qEnd o st mem W wc wk).mem.length=mem.length:=r.1;have:=b.hj;omega
 generalize C:qEnd o st mem W wc wk=S at*;have N:hEnd o st mem W wc wk=hE st S.o (bU (hAll o st []) S) S.W S.wc S.wk:=by unfold hEnd;rw[C]
 rw[N]at q;generalize M:bU (hAll o st []) S=all at*;have O:hAft o st mem W wc wk g=⟨tP (liA S.o (sls (memL all)) st (esW S.W) S.wc S.wk++g) pL (ah all),800000000000⟩:=by unfold hAft;rw[C,M]
 rw[O];have G:=b.hm;refine eL (ρ:=rG mem.length) (ρ2:=rG2 all.length) (t1:=(hBeg o st mem W wc wk).t) (k1:=8388544) ⟨λi m h J=>?_,λi m h J=>?_,λi j B m x _ _ _ _ c a=>?_,λi B h=>?_⟩ ?_ q (by omega) (λB i R h=>?_) (λB i h=>?_) (λV U i m x _ _ _ _ c a=>?_) (.tuple .nil) (λB m h=>?_);rcases rT h with a|⟨j,rfl,a⟩|⟨j,_,a⟩;simp only[liQ,HE,Hs,Jn,J9]at a;rcases a with⟨rfl,rfl⟩|⟨rfl,rfl⟩|⟨rfl,rfl⟩|⟨rfl,rfl⟩|⟨rfl,rfl⟩|⟨rfl,rfl⟩|⟨rfl,rfl⟩|⟨rfl,rfl⟩|⟨rfl,rfl⟩;exact⟨4,_,rfl,d (4,_) (.head _),.of (.cells (.cons (.slice rfl) (.cons (.slice rfl) .nil)))⟩;exact⟨5,_,rfl,d (5,_) (.tail _ (.head _)),ak _ _⟩;exact⟨6,_,rfl,d (6,_) (.tail _ (.tail _ (.head _))),dX λt l=>rG_M l⟩;exact⟨14,_,rfl,d (14,_) (.tail _ (.tail _ (.tail _ (.head _)))),ak _ _⟩;exact⟨10,_,rfl,d (10,_) (.tail _ (.tail _ (.tail _ (.tail _ (.head _))))),.of (.cells (.cons (.map rfl) .nil))⟩;exact⟨11,_,rfl,d (11,_) (.tail _ (.tail _ (.tail _ (.tail _ (.tail _ (.head _)))))),dy _ _ _⟩;exact⟨7,_,rfl,d (7,_) (.tail _ (.tail _ (.tail _ (.tail _ (.tail _ (.tail _ (.head _))))))),.of (.cells (.cons (.ptr rfl) .nil))⟩;exact⟨8,_,rfl,d (8,_) (.tail _ (.tail _ (.tail _ (.tail _ (.tail _ (.tail _ (.tail _ (.head _)))))))),.of (.cells (.cons (.slice rfl) .nil))⟩;exact⟨9,_,rfl,d (9,_) (.tail _ (.tail _ (.tail _ (.tail _ (.tail _ (.tail _ (.tail _ (.tail _ (.head _))))))))),ak _ _⟩;have k:=a;obtain⟨c,rfl⟩:=bu k;exact⟨T.numF pM j,_,rG_M c,by rw[I8 L];exact a,ak _ _⟩;cases a;rcases rT h with a|⟨j,rfl,a⟩|⟨j,_,a⟩;simp only[liQ,HE,Hs,Jn,J9]at a;rcases a with⟨rfl,rfl⟩|⟨rfl,rfl⟩|⟨rfl,rfl⟩|⟨rfl,rfl⟩|⟨rfl,rfl⟩|⟨rfl,rfl⟩|⟨rfl,rfl⟩|⟨rfl,rfl⟩|⟨rfl,rfl⟩<;>rfl;obtain⟨c,rfl⟩:=bu a;rfl;cases a;· rcases mb c with c|⟨t,_,c,k⟩<;>rcases mb a with a|⟨D,_,a,P⟩;have:=tG c;have:=tG a;omega;have:=tG c;omega;all_goals grind [tG]
 · rcases mb h with h|⟨t,_,c,k⟩;all_goals grind [tG]
 exact .cons (.ptr rfl) (.cons (.slice rfl) (.cons (.func rfl .nil (.cons (.ptr rfl) (.cons (.ptr rfl) (.cons (.ptr rfl) .nil)))) .nil));rcases je h with h|⟨t,_,c,k⟩;rcases j8 h with⟨rfl,rfl⟩|⟨rfl,rfl⟩|⟨rfl,rfl⟩|⟨rfl,rfl⟩|⟨rfl,rfl⟩|⟨rfl,rfl⟩|⟨rfl,rfl⟩|⟨rfl,rfl⟩|⟨rfl,rfl⟩;exact⟨by omega,rfl⟩;exact⟨by omega,rfl⟩;exact⟨by omega,rfl⟩;exact⟨by omega,rfl⟩;exact⟨by omega,rfl⟩;exact⟨by omega,rfl⟩;exact⟨by omega,rfl⟩;omega;omega;omega;· rcases je h with h|⟨t,_,c,k⟩;all_goals grind [j8]
 · rcases je c with c|⟨t,_,c,k⟩<;>rcases je a with a|⟨D,_,a,P⟩;have:=j8 c;have:=j8 a;omega;have:=j8 c;omega;all_goals grind [j8]
 rcases Ay h with a|⟨j,rfl,a⟩;rcases H3.1 a with a|a;simp only[liA,HE,Hs,Jn,J9]at a;rcases a with⟨rfl,rfl⟩|⟨rfl,rfl⟩|⟨rfl,rfl⟩|⟨rfl,rfl⟩|⟨rfl,rfl⟩|⟨rfl,rfl⟩|⟨rfl,rfl⟩|⟨rfl,rfl⟩|⟨rfl,rfl⟩;refine .inl ⟨0,.cells [groS 1 S.o.length,groS 12 (sls (memN all)).length] 85,rfl,by kernel_rfl,?_⟩;rw[show(sls (memL all)).length=(sls (memN all)).length from by rw[bj,bj,dm,aO]];exact .of (.cells (.cons (.slice rfl) (.cons (.slice rfl) .nil)));exact .inl ⟨1,groI S.o,rfl,by kernel_rfl,ak _ _⟩;exact .inl ⟨3,groI st,rfl,by kernel_rfl,ak _ _⟩;exact .inl ⟨4,.cells [.map (some 5)] 127,rfl,by kernel_rfl,.of (.cells (.cons (.map rfl) .nil))⟩;exact .inl ⟨5,.map (esW S.W) S.wc,rfl,by kernel_rfl,dy _ _ _⟩;exact .inl ⟨6,.cells [.pointer (some ⟨0,0,none⟩)] 82,rfl,by kernel_rfl,.of (.cells (.cons (.ptr rfl) .nil))⟩;exact .inl ⟨7,.cells [groS 13 S.wk.length] 49,rfl,by kernel_rfl,.of (.cells (.cons (.slice rfl) .nil))⟩;refine .inl ⟨12,groE (sls (memN all)),rfl,by kernel_rfl,dz (by rw[dm,aO]) λt l=>?_⟩;rw[aO]at l;exact⟨T.numF pM t,T.numF pL t,all[t].length,b9? l,pE l,rG2_L l⟩;exact .inl ⟨13,groI S.wk,rfl,by kernel_rfl,ak _ _⟩;· have hd:=odt (HV.1 s _ a);refine .inr ⟨u _ a,λi x _ _ e=>?_⟩;rcases mb e with e|⟨t,_,c,k⟩;all_goals grind [tG]
 have k:=a;obtain⟨c,rfl⟩:=bu k;have w:T.getFn pM (hE st S.o all S.W S.wc S.wk).t=some (ah all):=by kernel_rfl
 exact .inl ⟨T.numF pM j,_,rG2_L c,by rw[I8 w];exact a,ak _ _⟩
end
end Go.T9
namespace Go.T9
open Go Go.AM Go.MK Go.Proofs.Tryz
noncomputable section
noncomputable def nB:Nat:=Func.ntmps f78
noncomputable def bB:Code:=ay f78
def outV(Z:La):Value:=dat 1 (roV Z)
def outE(D:List La)(k:Nat):Lh:=D.map outV++List.replicate k nilS
def outM(D:List La)(m k:Nat):Lh:=D.map outV++groS 5 m::List.replicate k nilS
def hB(b:List (Nat×AObj))(g:Nat->Option AObj)(a:Nat):AH:=⟨tP b pM g,a⟩
def liB(C F:Le)(a:Li)(b:La):List (Nat×AObj):=[(0,dfO C [groS 1 F.length,groS 2 a.length,groS 3 b.length]),(1,groI F),(2,groB a),(3,groR b)]
def groO(els:Lh):AObj:=.gro els [] 23
def frB(n c:Nat):T Value:=(Nd (Nd (Nd (Nd (Nd Lf (some (.int .i64 c)) Lf) none Lf) (some (groS 4 n)) Lf) none (Nd Lf none (Nd Lf (some (groS 4 n)) Lf))) (some (.pointer (some ⟨0,0,none⟩))) (Nd Lf none (Nd Lf none (Nd Lf (some (.int .i64 n)) Lf))))
def frBI(n m c s:Nat):T Value:=(Nd (Nd (Nd (Nd (Nd (Nd Lf (some (.int .i64 m)) Lf) (some (.int .i64 c)) Lf) none Lf) (some (groS 4 n)) Lf) none (Nd Lf none (Nd Lf (some (groS 4 n)) Lf))) (some (.pointer (some ⟨0,0,none⟩))) (Nd (Nd (Nd (Nd (Nd Lf (some (.int .i64 s)) Lf) none Lf) none Lf) (some (.int .i64 c)) Lf) none (Nd Lf none (Nd Lf (some (.int .i64 n)) (Nd Lf (some (groS 3 m)) Lf)))))
def elBk(v:Value)(n:Nat)(hk:List (NPos×TypeId×Nat)):El:={El.of (λ_ t els i=>bif Nat.beq t 35 then some (.func (.yield 1) ⟨ae els i⟩ ⟨[]⟩)else bif inL t [39,47]then some (groS 5 n)else bif Nat.beq t 53 then some v else some (.int .i64 (aa els i)))with app:=true,gm:=λ_=>true,hk:=λd=>match d with|some 54=>hk|_=>[]}
def XBk(v:Value)(n:Nat)(a:List (NPos×TypeId×Nat)):SX:=⟨env,[],elBk v n a,λ_=>.raw⟩
def XB:SX:=XBk nilS 0 []
def zH(K:KV):KX:=finK XB.E (f78.results).toList K
def jB0(K:KV)(C F:Le)(a:Li)(b:La):Prop:=aN XB 1 f78 [.pointer (some ⟨0,0,none⟩)] (hDf C F a b) K
def pB1:Lg:=[1,1,0,1,0]
def jB1(K:KV)(again:KF)(C F:Le)(ac:Li)(rw:La)(els:Lh)(c:Nat):Prop:=
 bJ XB XB 1 nB (hDf C F ac rw) bB pB1 (zH K) again (frB els.length c) (hB (liB C F ac rw++[(4,groO els)]) (λ_=>none) 8388544)
def pB2:Lg:=[1,1,0,0,1,1,1,0]
noncomputable def kB1(K:KV)(c:KF)(C F:Le)(a:Li)(b:La):KX:=stepR XB 1 nB (hDf C F a b) bB pB1 (zH K) c
def mB:Ld:=[(0,0),(1,1),(2,2),(3,3),(4,4)]
def ovB(F:Le)(a:Li)(b:La)(c:Lh):List (Nat×AObj):=[(1,groI F),(2,groB a),(3,groR b),(4,groO c)]
def slB1:Lg:=[0,3,13,14,15]
def slB2:Lg:=[0,3,4,13,14,15,30,31,32]
def jB2(K:KV)(again K2:KF)(C F:Le)(ac:Li)(rw:La)(els zs zs3:Lh)(g g3:Nat->Option AObj)(c s z:Nat)(r:Le)(ρf:Nat->Lk):Prop:=
 bJ (XBk (groS 8388544 r.length) rw.length []) XB 1 nB (hDf C F ac rw) (an (subC pB1 bB)) pB2 (kB1 K again C F ac rw) (cg 4 [] (ovB F ac rw els++[(5,groE zs3)]) (mB++[(5,5)]) slB2 8388544 [(pM,g3,[(z,8388568)])] ρf K2) (frBI els.length rw.length c s) (hB (liB C F ac rw++[(4,groO els),(5,groE zs),(8388544,groI r)]) g 8388545)
def jB2e(K:KV)(again K2:KF)(C F:Le)(ac:Li)(rw:La)(els zs:Lh)(g:Nat->Option AObj)(c:Nat):Prop:=
 bJ (XBk nilS rw.length []) XB 1 nB (hDf C F ac rw) (an (subC pB1 bB)) pB2 (kB1 K again C F ac rw) K2 (frBI els.length rw.length c rw.length) (hB (liB C F ac rw++[(4,groO els),(5,groE zs)]) g 8388544)
def hBk(C F:Le)(a:Li)(b:La)(c:Lh):AH:=⟨(Nd (Nd (Nd Lf (some (groR b)) Lf) (some (groI F)) Lf) (some (dfO C [groS 1 F.length,groS 2 a.length,groS 3 b.length])) (Nd (Nd Lf (some (groO c)) Lf) (some (groB a)) Lf)),5⟩
def jBt1(K2:KF)(C F:Le)(ac:Li)(rw:La)(els:Lh)(ρf:Nat->Lk):Prop:=
 cg 4 [] (ovB F ac rw els) mB slB1 8388544 [(pM,λ_=>none,[])] ρf K2 (frB els.length 0) (hBk C F ac rw els)
def jBt2(K2:KF)(C F:Le)(ac:Li)(rw:La)(els els3 zs zs3:Lh)(g3:Nat->Option AObj)(c:Nat)(ρf:Nat->Lk)(NL:Nat->Prop):Prop:=
 Cn 4 [] (ovB F ac rw els3++[(5,groE zs3)]) (mB++[(5,8388544)]) slB2 8388544 [(pM,g3,[])] ρf NL K2 (frBI els.length rw.length c 0) (hB (liB C F ac rw++[(4,groO els),(8388544,groE zs)]) (λ_=>none) 8388545)
def jBt3(K2:KF)(C F:Le)(ac:Li)(rw:La)(els:Lh)(c:Int)(ρf:Nat->Lk):Prop:=
 cg 4 [] (ovB F ac rw els) mB slB1 8388544 [(pM,λ_=>none,[])] ρf K2 ((.node (.node (.node (.node (.node .leaf (some (.int .i64 c)) .leaf) none .leaf) (some (groS 4 els.length)) .leaf) none (.node .leaf none (.node .leaf (some (groS 4 els.length)) .leaf))) (some (.pointer (some ⟨0,0,none⟩))) (.node .leaf none (.node .leaf none (.node .leaf (some (.int .i64 els.length)) .leaf))))) (hB (liB C F ac rw++[(4,groO els),(5,.dead)]) (λ_=>none) 8388544)
def jBtE(K2:KF)(C F:Le)(ac:Li)(rw:La)(els:Lh):Prop:=
 cg 4 [] (ovB F ac rw els) mB [0] 5 [] (λ_=>none) K2 ((.node .leaf (some (groS 4 els.length)) .leaf)) (hB (liB C F ac rw++[(4,groO els)]) (λ_=>none) 8388544)
abbrev _root_.Go.Ja:=@List.mem_replicate
abbrev _root_.Go.JI:=@List.set_append_right
theorem Ne(K:KV)(C:Le)(F:Le)(a:Li)(b:La):jB0 K C F a b=((0<=I_ F.length/\I_ F.length<=I_ F.length/\I_ F.length<=281474976710656/\24*List.length F<=281474976710656)/\LAtZ XB 1 f78.ntmps (hDf C F a b) (ay f78) [1,1,0,1,0] (finK (SX.E XB) f78.results.toList K) (Ns (No (Ns (Ns (Kx 0) i_ Lf) (g_ 4 0 F.length) (Kx (I_ F.length))) (No (Sg (c_ 0 256)) (Ls 4 0 F.length))) i_ (Ns (No (Sg i_) (Ls 4 0 F.length)) p_ (No (Ls 1 0 F.length) (Kx (I_ F.length))))) (K_ (Kw (Sg (O_ b)) (f_ F)) (e_ C F.length a.length b.length) (Kw (Lu (List.replicate F.length p_) 23) (Z_ a)) 5)):=by kernel_rfl
theorem jB0_nf:type_of%(by have h:=@Ne;revert h;delta b_ c_ e_ f_ g_ i_ l_ p_ I_ K_ O_ Z_ Kw Kx Ls Lu;exact id):=@Ne
abbrev OD(a:Nat)(b:Lh):Prop:=(0<=(a:Int)/\(a:Int)<I_ b.length)
theorem Nf(K:KV)(e:KF)(C:Le)(F:Le)(d:Li)(a:La)(b:Lh)(c:Nat):jB1 K e C F d a b c=(Sp (decide ((c:Int)<I_ b.length)) ((0<=I_ a.length/\I_ a.length<=I_ a.length/\I_ a.length<=281474976710656/\24*List.length a<=281474976710656)/\OD c b/\c<List.length b/\LAtZ XB 1 nB (hDf C F d a) (an (subC pB1 bB)) [1,1,0,0,1,1,1,0] (stepR XB 1 nB (hDf C F d a) bB pB1 (zH K) e) (Ns (No (Ns (No (Kw (Kx (I_ a.length)) (Vi c)) (Ls 3 0 a.length)) (g_ 4 0 b.length) (No (Kx c) (Sg i_))) (No (No (Kx c) (Ls 8388544 0 a.length)) (Ns (Sg i_) (g_ 4 0 b.length) (Sg (c_ 0 258))))) i_ (No (Ns (No (Kw (Kx 0) KG) (Kx (I_ a.length))) (Vi c) (No (Sg i_) (Sg i_))) (No (No (Ls 4 0 b.length) (C_ 1 4 0 c)) (Ns (Sg (c_ 0 258)) (Lr b.length) (Ls 3 0 a.length))))) (K_ (Kw (Kw (w_ (No (T.fn λ(x:Nat)=>none) Lf)) (O_ a)) (f_ F)) (e_ C F.length d.length a.length) (Kw (Kw (w_ (No (a_ (a_ (z_ (z_ (Lu (List.replicate a.length p_) 49))))) Lf)) (l_ (List.set b c (g_ 8388544 0 a.length)) 23)) (Z_ d)) 8388545)) (K (g_ 4 0 b.length) (K_ (Kw (Kw (w_ (No (T.fn λ(x:Nat)=>none) Lf)) (O_ a)) (f_ F)) (e_ C F.length d.length a.length) (Kw (Lu b 23) (Z_ d)) 8388544))):=by kernel_rfl
theorem Br:type_of%(by have h:=@Nf;revert h;delta OD a_ b_ c_ e_ f_ g_ i_ l_ p_ w_ z_ C_ I_ K_ O_ Z_ Kw Kx KG Lr Ls Lu;exact id):=@Nf
theorem Ng(K:KV)(j:KF)(k:KF)(C:Le)(F:Le)(e:Li)(a:La)(b f h:Lh)(g:Nat->Option AObj)(i:Nat->Option AObj)(c s z:Nat)(r:Le)(d:Nat->Lk):jB2 K j k C F e a b f h g i c s z r d=(Sp (decide ((s:Int)<I_ a.length)) ((0<=(s:Int)/\(s:Int)<I_ a.length)/\nth (roV a) s=some (Vd 1 (ae (roV a) s))/\OD c b/\nth b c=some (g_ 5 0 a.length)/\OI c a s/\nth (ae (roV a) s) c=some (Vi (aa (ae (roV a) s) c))/\OD c b/\nth b c=some (g_ 5 0 a.length)/\OI c a s/\nth (ae (roV a) s) c=some (Vi (aa (ae (roV a) s) c))/\(0<=aa (ae (roV a) s) c/\aa (ae (roV a) s) (c:Int)<I_ a.length)/\nth f (G_ (s_ (ae (roV a) s) c))=some (g_ 8388544 0 r.length)/\KD s r/\nth (ae (roV a) s) c=some (Vi (aa (ae (roV a) s) c))/\Vi (aa (ae (roV a) s) c)=Vi (aa (ae (roV a) s) c)/\nth b c=some (g_ 5 0 a.length)/\Value.slice (some ⟨5,0,none⟩) a.length 18446744073709551620=Value.slice (some ⟨5,0,none⟩) a.length 18446744073709551620/\(0<=aa (ae (roV a) s) c/\aa (ae (roV a) s) (c:Int)<I_ a.length)/\Int.toNat (s_ (ae (roV a) s) c)<List.length f/\(L_ (rhoX [(0,0),(1,1),(2,2),(3,3),(4,4),(5,5)] d) (f_ F)/\L_ (rhoX [(0,0),(1,1),(2,2),(3,3),(4,4),(5,5)] d) (Z_ e)/\L_ (rhoX [(0,0),(1,1),(2,2),(3,3),(4,4),(5,5)] d) (O_ a)/\L_ (rhoX [(0,0),(1,1),(2,2),(3,3),(4,4),(5,5)] d) (l_ b 23)/\ROX (rhoX [(0,0),(1,1),(2,2),(3,3),(4,4),(5,5)] d) (l_ (List.set f (G_ (s_ (ae (roV a) s) c)) (g_ 8388568 0 (List.length r+1))) 49) (l_ h 49)/\True)/\F_ C/\IdTo 4 (rhoX [(0,0),(1,1),(2,2),(3,3),(4,4),(5,5)] d)/\RQ [(0,0),(1,1),(2,2),(3,3),(4,4),(5,5)] d [] 8388544/\(FQ (rhoX [(0,0),(1,1),(2,2),(3,3),(4,4),(5,5)] d) [([true,true,true,true,true,true],g)] [true,true,true,true,true,true] i [(z,8388568,AObj.gro (inV r) [Vi s] 3)]/\True)/\k (Ns (No (Kw (No (Kw (Kx (I_ a.length)) (Vi c)) Lf) (g_ 4 0 b.length)) (KA (g_ 4 0 b.length))) i_ (No (Kw (w_ (x_ ((s:Int)+1))) (Vi c)) (No Lf (Ns Lf (Lr b.length) (Ls 3 0 a.length))))) (K_ (Ns (Kw (w_ (No (T.fn i) Lf)) (O_ a)) (f_ F) (Lu h 49)) (e_ C F.length e.length a.length) (Kw (Lu b 23) (Z_ e)) 8388544)) (j (Ns (No (Kw (No (Kw (Kx (I_ a.length)) (Vi (IntKind.wrap .i64 ((c:Int)+1)))) Lf) (g_ 4 0 b.length)) (No (w_ (Sg O')) (Ls 4 0 b.length))) i_ (No (Ns (w_ (Kx s)) (Vi c) (z_ (x_ ((c:Int)+1)))) (No Lf (Ns Lf (Lr b.length) (Ls 3 0 a.length))))) (K_ (Ns (Kw (w_ (No (T.fn g) Lf)) (O_ a)) (f_ F) (Lu f 49)) (e_ C F.length e.length a.length) (Kw (Kw (w_ (No (a_ (a_ (z_ (z_ (Lp r))))) Lf)) (l_ b 23)) (Z_ e)) 8388545))):=by kernel_rfl
theorem jB2_nf:type_of%(by have h:=@Ng;revert h;delta OI OD KD a_ b_ d_ e_ f_ g_ i_ j_ l_ s_ w_ x_ z_ F_ G_ I_ K_ L_ O_ Z_ O' Kw Kx KA Lp Lr Ls Lu;exact id):=@Ng
abbrev J_:=λa b c=>Value.slice (some ⟨a,b,none⟩) c c
abbrev KK:=λa b=>ae (roV a) (I_ b)
abbrev OG(a:La)(b:Nat):Prop:=(0<=aa (KK a (List.length a+0)) b/\aa (KK a (List.length a+0)) (b:Int)<I_ a.length)
theorem Nh(K:KV)(e:KF)(f:KF)(C:Le)(F:Le)(d:Li)(rw:La)(a b:Lh)(g:Nat->Option AObj)(c:Nat):jB2e K e f C F d rw a b g c=(Sp (decide (I_ rw.length<I_ rw.length)) ((0<=I_ rw.length/\I_ rw.length<I_ rw.length)/\nth (roV rw) (G_ (I_ (List.length rw+0)))=some (Vd 1 (KK rw (List.length rw+0)))/\OD c a/\nth a c=some (g_ 5 0 rw.length)/\(0<=(c:Int)/\(c:Int)<j_ (KK rw (List.length rw+0)))/\nth (KK rw (List.length rw+0)) c=some (Vi (aa (KK rw (List.length rw+0)) c))/\OD c a/\nth a c=some (g_ 5 0 rw.length)/\(0<=(c:Int)/\(c:Int)<j_ (KK rw (List.length rw+0)))/\nth (KK rw (List.length rw+0)) c=some (Vi (aa (KK rw (List.length rw+0)) c))/\OG rw c/\nth b (G_ (s_ (KK rw (List.length rw+0)) c))=some p_/\nth (KK rw (List.length rw+0)) c=some (Vi (aa (KK rw (List.length rw+0)) c))/\Vi (aa (KK rw (List.length rw+0)) c)=Vi (aa (KK rw (List.length rw+0)) c)/\nth a c=some (g_ 5 0 rw.length)/\Value.slice (some ⟨5,0,none⟩) rw.length 18446744073709551620=Value.slice (some ⟨5,0,none⟩) rw.length 18446744073709551620/\OG rw c/\Int.toNat (s_ (KK rw (List.length rw+0)) c)<List.length b/\f (Ns (No (Ns (No (Ns (Kx (I_ rw.length)) (Vi c) (C_ 1 4 0 c)) (No (C_ 1 4 0 c) (Kx (I_ rw.length)))) (g_ 4 0 a.length) (No (No (C_ 1 3 0 (I_ (List.length rw+0))) (Sg (Value.func (.yield 1) (Array.mk (KK rw (List.length rw+0))) (Array.mk [Vi c,Vi 0])))) (No (Sg (Value.func (.yield 1) (Array.mk (KK rw (List.length rw+0))) (Array.mk [Vi c,Vi 0]))) (x_ (I_ rw.length+1))))) (Ns (No (No (Sg KG) (Sg (Vd 1 (KK rw (List.length rw+0))))) (No (Sg (Vd 1 (KK rw (List.length rw+0)))) (Sg (t_ 8388567 0 1 18446744073709551616)))) (Lr rw.length) (Ns (No (Ls 4 0 a.length) (C_ 1 5 0 (s_ (KK rw (List.length rw+0)) c))) (g_ 4 0 a.length) (H_ (g_ 4 0 a.length))))) i_ (No (Ns (No (No (x_ (I_ rw.length+1)) (Ls 5 0 rw.length)) (No (Ls 5 0 rw.length) (Sg (J_ 8388563 0 1)))) (Vi c) (No (No (Sg (Vd 1 (KK rw (List.length rw+0)))) (Kx (aa (KK rw (List.length rw+0)) c))) (H_ (Vi (aa (KK rw (List.length rw+0)) c))))) (Ns (No (No (Kx (I_ rw.length)) (Kx c)) (No (Kx c) (C_ 1 5 0 (s_ (KK rw (List.length rw+0)) c)))) (Vd 1 (KK rw (List.length rw+0))) (Ns (No (Kx c) (Sg p_)) (Lr a.length) (Kw (Kx c) (g_ 3 0 rw.length)))))) (K_ (Ns (Ns (No (w_ (T.fn g)) (No Lf (No (a_ (a_ (z_ (z_ (KJ [Lr rw.length] 3))))) Lf))) (O_ rw) (T_ (No (a_ (a_ (z_ (z_ (KJ [Lr rw.length] 3))))) Lf))) (f_ F) (Lu (List.set b (G_ (s_ (KK rw (List.length rw+0)) c)) (t_ 8388567 0 1 18446744073709551616)) 49)) (e_ C F.length d.length rw.length) (Kw (Lu a 23) (Z_ d)) 8388568)) (e (Ns (No (Kw (No (Kw (Kx (I_ rw.length)) (Vi (IntKind.wrap .i64 ((c:Int)+1)))) Lf) (g_ 4 0 a.length)) (No (w_ (Sg O')) (Ls 4 0 a.length))) i_ (No (Ns (w_ (Kx (I_ rw.length))) (Vi c) (z_ (x_ ((c:Int)+1)))) (No Lf (Ns Lf (Lr a.length) (Ls 3 0 rw.length))))) (K_ (Ns (Kw (w_ (No (T.fn g) Lf)) (O_ rw)) (f_ F) (Lu b 49)) (e_ C F.length d.length rw.length) (Kw (Lu a 23) (Z_ d)) 8388544))):=by kernel_rfl
theorem EO:type_of%(by have h:=@Nh;revert h;delta OG OD a_ b_ c_ e_ f_ g_ i_ j_ l_ m_ p_ s_ t_ w_ x_ z_ C_ G_ H_ I_ J_ K_ O_ T_ Z_ O' Kw Kx KG KJ KK Lr Ls Lu;exact id):=@Nh
abbrev Lz:=λa=>rhoX [(0,0),(1,1),(2,2),(3,3),(4,4)] a
abbrev Oy(a:Nat->Lk):Prop:=(FQ (Lz a) [([true,true,true,true,true,true],λ(x:Nat)=>none)] [true,true,true,true,true,true] (λ(x:Nat)=>none) []/\True)
theorem Ni(e:KF)(C:Le)(F:Le)(d:Li)(c:La)(b:Lh)(a:Nat->Lk):jBt1 e C F d c b a=((L_ (Lz a) (f_ F)/\L_ (Lz a) (Z_ d)/\L_ (Lz a) (O_ c)/\L_ (Lz a) (l_ b 23)/\True)/\F_ C/\IdTo 4 (Lz a)/\RQ [(0,0),(1,1),(2,2),(3,3),(4,4)] a [] 8388544/\Oy a/\e (Ns (No (Kw (H_ (Vi 0)) (g_ 4 0 b.length)) (KA (g_ 4 0 b.length))) i_ (z_ (Kx (I_ b.length)))) (K_ (Kw (Kw (w_ (No (T.fn λ(x:Nat)=>none) Lf)) (O_ c)) (f_ F)) (e_ C F.length d.length c.length) (Kw (Lu b 23) (Z_ d)) 8388544)):=by kernel_rfl
theorem EM:type_of%(by have h:=@Ni;revert h;delta Oy b_ d_ e_ f_ g_ i_ l_ w_ z_ F_ H_ I_ K_ L_ O_ Z_ Kw Kx KA Lu Lz;exact id):=@Ni
theorem Nj(k:KF)(C:Le)(F:Le)(e:Li)(b:La)(d i j f:Lh)(g:Nat->Option AObj)(c:Nat)(a:Nat->Lk)(h:Nat->Prop):jBt2 k C F e b d i j f g c a h=((L_ (rhoX [(0,0),(1,1),(2,2),(3,3),(4,4),(5,8388544)] a) (f_ F)/\L_ (rhoX [(0,0),(1,1),(2,2),(3,3),(4,4),(5,8388544)] a) (Z_ e)/\L_ (rhoX [(0,0),(1,1),(2,2),(3,3),(4,4),(5,8388544)] a) (O_ b)/\ROX (rhoX [(0,0),(1,1),(2,2),(3,3),(4,4),(5,8388544)] a) (l_ d 23) (l_ i 23)/\ROX (rhoX [(0,0),(1,1),(2,2),(3,3),(4,4),(5,8388544)] a) (l_ j 49) (l_ f 49)/\True)/\F_ C/\IdTo 4 (rhoX [(0,0),(1,1),(2,2),(3,3),(4,4),(5,8388544)] a)/\RQ [(0,0),(1,1),(2,2),(3,3),(4,4),(5,8388544)] a [] 8388544/\NLOk [(0,0),(1,1),(2,2),(3,3),(4,4),(5,8388544)] a h 8388544/\(FQN (rhoX [(0,0),(1,1),(2,2),(3,3),(4,4),(5,8388544)] a) h [([true,true,true,true,true,true],λ(x:Nat)=>none)] [true,true,true,true,true,true] g []/\True)/\k (Ns (No (Kw (No (Kw (Kx (I_ b.length)) (Vi c)) Lf) (g_ 4 0 d.length)) (KA (g_ 4 0 d.length))) i_ (No (Kw (w_ (Kx 0)) (Vi c)) (No Lf (Ns Lf (Lr d.length) (Ls 3 0 b.length))))) (K_ (Ns (Kw (w_ (No (T.fn g) Lf)) (O_ b)) (f_ F) (Lu f 49)) (e_ C F.length e.length b.length) (Kw (Lu i 23) (Z_ e)) 8388544)):=by kernel_rfl
theorem EL:type_of%(by have h:=@Nj;revert h;delta b_ d_ e_ f_ g_ i_ l_ w_ F_ I_ K_ L_ O_ Z_ Kw Kx KA Lr Ls Lu;exact id):=@Nj
theorem Nk(f:KF)(C:Le)(F:Le)(e:Li)(d:La)(b:Lh)(c:Int)(a:Nat->Lk):jBt3 f C F e d b c a=((L_ (Lz a) (f_ F)/\L_ (Lz a) (Z_ e)/\L_ (Lz a) (O_ d)/\L_ (Lz a) (l_ b 23)/\True)/\F_ C/\IdTo 4 (Lz a)/\RQ [(0,0),(1,1),(2,2),(3,3),(4,4)] a [] 8388544/\Oy a/\f (Ns (No (Kw (H_ (Vi c)) (g_ 4 0 b.length)) (KA (g_ 4 0 b.length))) i_ (z_ (Kx (I_ b.length)))) (K_ (Kw (Kw (w_ (No (T.fn λ(x:Nat)=>none) Lf)) (O_ d)) (f_ F)) (e_ C F.length e.length d.length) (Kw (Lu b 23) (Z_ e)) 8388544)):=by kernel_rfl
theorem EK:type_of%(by have h:=@Nk;revert h;delta Oy b_ d_ e_ f_ g_ i_ l_ w_ z_ F_ H_ I_ K_ L_ O_ Z_ Kw Kx KA Lu Lz;exact id):=@Nk
theorem Nl(d:KF)(C:Le)(F:Le)(a:Li)(b:La)(c:Lh):jBtE d C F a b c=((ROX (rhoX [(0,0),(1,1),(2,2),(3,3),(4,4)] λ(x:Nat)=>none) (f_ F) (f_ F)/\ROX (rhoX [(0,0),(1,1),(2,2),(3,3),(4,4)] λ(x:Nat)=>none) (Z_ a) (Z_ a)/\ROX (rhoX [(0,0),(1,1),(2,2),(3,3),(4,4)] λ(x:Nat)=>none) (O_ b) (O_ b)/\ROX (rhoX [(0,0),(1,1),(2,2),(3,3),(4,4)] λ(x:Nat)=>none) (l_ c 23) (l_ c 23)/\True)/\F_ C/\IdTo 4 (rhoX [(0,0),(1,1),(2,2),(3,3),(4,4)] λ(x:Nat)=>none)/\RQ [(0,0),(1,1),(2,2),(3,3),(4,4)] (λ(x:Nat)=>none) [] 5/\True/\d (Ls 4 0 c.length) (K_ (Kw (Sg (O_ b)) (f_ F)) (e_ C F.length a.length b.length) (Kw (Lu c 23) (Z_ a)) 5)):=by kernel_rfl
theorem EJ:type_of%(by have h:=@Nl;revert h;delta b_ d_ e_ f_ g_ l_ F_ K_ O_ Z_ Kw Ls Lu;exact id):=@Nl
theorem uV{ρ:Nat->Lk}:∀ {a d b c:Lh},RVs ρ a d->RVs ρ b c->RVs ρ (a++b) (d++c)
 |_,_,_,_,.nil,h=>h
 |_,_,_,_,.cons x t,h=>.cons x (uV t h)
theorem k6{ρ:Nat->Lk}{l:Lh}{e:TypeId}(h:∀ x∈l,HF x)(a:∀ x∈l,fU x):ROX ρ (.gro l [] e) (.gro l [] e):=.row (by grind) a (by rw[Hu];exact RVs.hf h)
theorem c1_bl(l:Li):∀ x∈blV l,fU x:=λx a=>by obtain⟨b,_,rfl⟩:=Hn.1 a;rfl
theorem c1_ro(l:La):∀ x∈roV l,fU x:=λx a=>by obtain⟨b,_,rfl⟩:=Hn.1 a;rfl
theorem gd(ρ:Nat->Lk)(l:Li):ROX ρ (.gro (blV l) [] 4) (.gro (blV l) [] 4):=k6 (ax l) (c1_bl l)
theorem fS(ρ:Nat->Lk)(l:La):ROX ρ (.gro (roV l) [] 49) (.gro (roV l) [] 49):=k6 (aq l) (c1_ro l)
theorem Bt:HF nilS:=.scal rfl
theorem wA(Z:La):HF (outV Z):=.dat (aq Z)
theorem ki(D:List La)(k:Nat):∀ x∈outE D k,HF x:=λx a=>by rcases H3.1 a with h|h;obtain⟨Z,_,rfl⟩:=Hn.1 h;exact wA Z;obtain⟨_,rfl⟩:=Ja.1 h;exact Bt
theorem nj(D:List La)(k:Nat):∀ x∈outE D k,fU x:=λx a=>by rcases H3.1 a with h|h;obtain⟨Z,_,rfl⟩:=Hn.1 h;rfl;obtain⟨_,rfl⟩:=Ja.1 h;rfl
theorem qu(D:List La)(B m k:Nat):∀ x∈D.map outV++groS B m::List.replicate k nilS,fU x:=λx a=>by rcases H3.1 a with h|h;obtain⟨Z,_,rfl⟩:=Hn.1 h;rfl;rcases HE.1 h with h|h;subst h;rfl;obtain⟨_,rfl⟩:=Ja.1 h;rfl
theorem fN(D:List La)(k:Nat):(outE D k).length=D.length+k:=by simp[outE]
theorem mh(D:List La)(m k:Nat):(outM D m k).length=D.length+(k+1):=by simp[outM]
theorem yW(D:List La)(k:Nat)(x:Value):(outE D (k+1)).set D.length x=D.map outV++x::List.replicate k nilS:=by simp_all [outE,JI,Hp,IX,Jg,JV]
theorem qP{ρ:Nat->Lk}{D:List La}{B B' m k:Nat}(h:ρ B'=some B):ROX ρ (.gro (D.map outV++groS B m::List.replicate k nilS) [] 23) (.gro (D.map outV++groS B' m::List.replicate k nilS) [] 23):=
 .row (by rw[Hu];exact qu D B m k) (qu D B' m k) (by rw[Hu];refine uV (RVs.hf λx a=>?_) (.cons (.slice h) (RVs.hf λx a=>?_));obtain⟨Z,_,rfl⟩:=Hn.1 a;exact wA Z;obtain⟨_,rfl⟩:=Ja.1 a;exact Bt)
def pa(Z:La)(z:Nat)(s:Int):La:=Z.set z (Z.getD z []++[s])
def zRow(rw:La)(c:Nat):Nat->La
 |0=>List.replicate rw.length []
 |s+1=>pa (zRow rw c s) ((rw.getD s []).getD c 0).toNat s
theorem de(rw:La)(c:Nat):∀ s,(zRow rw c s).length=rw.length
 |0=>HZ
 |s+1=>by show(List.set _ _ _).length=_;rw[Hz];exact de rw c s
theorem id4(l:Ld)(ρ:Nat->Lk):IdTo 4 (rhoX (mB++l) ρ):=λB a=>by
 have:B=0∨B=1∨B=2∨B=3:=by omega
 rcases this with rfl|rfl|rfl|rfl<;>rfl
def hBo(C F:Le)(a:Li)(b:La)(c:Lh):AH:=hB (liB C F a b++[(4,groO c)]) (λ_=>none) 8388544
def hBi(C F:Le)(a:Li)(b:La)(els:Lh)(Z:La):AH:=hB (liB C F a b++[(4,groO els),(5,groE (sls (memN Z)))]) (ah Z) 8388544
theorem fD(m:Ld)(nx:Nat):RQ m (λ_=>none) [] nx:=⟨λ_ _ h=>(by cases h),λ_ _ _ _ _ h=>(by cases h),λ_ _ _ _ h=>(by cases h)⟩
theorem turnB1{A0:AH}(d:A0.next=4){C F:Le}{ac:Li}{rw:La}(n:Nat):Turns env A0 nB (frB (outE [] n).length 0) (hBk C F ac rw (outE [] n)) (frB (outE [] n).length 0) (hBo C F ac rw (outE [] n)):=by obtain⟨b,a⟩:=A0;obtain rfl:a=4:=d;obtain⟨e,f,⟨rfl,rfl⟩,c⟩:=bi (E:=env) am (A0:=⟨b,4⟩) (n:=nB) (λG A=>G=frB (outE [] n).length 0/\A=hBo C F ac rw (outE [] n)) (frB (outE [] n).length 0) (hBk C F ac rw (outE [] n)) ((EM _ C F ac rw (outE [] n) (λ_=>none)).mpr ⟨⟨ak _ _,gd _ _,fS _ _,k6 (ki _ _) (nj _ _),trivial⟩,ab _,id4 [] _,fD _ _,⟨cV,trivial⟩,by kernel_rfl,by kernel_rfl⟩);exact c
theorem turnB2{A0:AH}(s:A0.next=4){C F:Le}{ac:Li}{rw:La}{D:List La}{k:Nat}(u:rw.length<=100000):Turns env A0 nB (frBI (outM D rw.length k).length rw.length D.length 0) (hB (liB C F ac rw++[(4,groO (D.map outV++groS 8388544 rw.length::List.replicate k nilS)),(8388544,groE (List.replicate rw.length nilS))]) (λ_=>none) 8388545) (frBI (outM D rw.length k).length rw.length D.length 0) (hBi C F ac rw (outM D rw.length k) (zRow rw D.length 0)):=by
 obtain⟨j,d⟩:=A0;obtain rfl:d=4:=s;have a:(D.map outV++groS 8388544 rw.length::List.replicate k nilS).length=(outM D rw.length k).length:=by simp[outM]
 rw [<-a];have r:jBt2 (λG A=>G=frBI (D.map outV++groS 8388544 rw.length::List.replicate k nilS).length rw.length D.length 0/\A=hBi C F ac rw (outM D rw.length k) (zRow rw D.length 0)) C F ac rw (D.map outV++groS 8388544 rw.length::List.replicate k nilS) (outM D rw.length k) (List.replicate rw.length nilS) (sls (memN (zRow rw D.length 0))) (ah (zRow rw D.length 0)) D.length (λ_=>none) (λB=>∃ i,i<rw.length/\B=64*i+63):=by
  refine(EL _ C F ac rw (D.map outV++groS 8388544 rw.length::List.replicate k nilS) (outM D rw.length k) (List.replicate rw.length nilS) (sls (memN (zRow rw D.length 0))) (ah (zRow rw D.length 0)) D.length (λ_=>none) (λB=>∃ i,i<rw.length/\B=64*i+63)).mpr ⟨⟨ak _ _,gd _ _,fS _ _,qP rfl,.row (by rw[Hu];exact λx b=>by obtain⟨_,rfl⟩:=Ja.1 b;rfl) (kY _) ?_,trivial⟩,ab _,id4 _ _,fD _ _,?_,⟨?_,trivial⟩,by kernel_rfl,by kernel_rfl⟩;rw[Hu];have:∀ (m:Nat) (l:Ld),l.length=m->(∀x∈l,x.2=0)->RVs (rhoX [(0,0),(1,1),(2,2),(3,3),(4,4),(5,8388544)] (λ_=>none)) (List.replicate m nilS) (sls l):=λm=>by
   induction m with
   |zero=>intro l c _;rw[H0 c];exact .nil
   |succ m o=>
   intro l c h;cases l with
   |nil=>cases c
   |cons x l=>have e:x.2=0:=h x HT;rw[Jg];refine .cons ?_ (o l (by simpa using c) λy p=>h y (HO _ p));unfold sl groS;rw[e];exact .nilG (by omega)
  refine this rw.length (memN (zRow rw D.length 0)) (by rw[aO,de]) λx b=>?_;obtain⟨i,g,rfl⟩:=IA.1 b;simp[memN,zRow];rintro B ⟨i,f,rfl⟩;refine⟨rfl,kJ λx b e=>?_,by omega⟩;grind;intro i t g;obtain⟨f,rfl⟩:=bu g;refine .inr (.inr ⟨⟨i,by rw[de]at f;exact f,numM i⟩,?_⟩);have:(zRow rw D.length 0)[i]=[]:=by simp[zRow]
  rw[this];rfl
 obtain⟨v,w,⟨rfl,rfl⟩,q⟩:=yr (E:=env) am (A0:=⟨j,4⟩) (n:=nB) (λG A=>G=frBI (D.map outV++groS 8388544 rw.length::List.replicate k nilS).length rw.length D.length 0/\A=hBi C F ac rw (outM D rw.length k) (zRow rw D.length 0)) (frBI (D.map outV++groS 8388544 rw.length::List.replicate k nilS).length rw.length D.length 0) (hB (liB C F ac rw++[(4,groO (D.map outV++groS 8388544 rw.length::List.replicate k nilS)),(8388544,groE (List.replicate rw.length nilS))]) (λ_=>none) 8388545) r;exact q
end
end Go.T9
