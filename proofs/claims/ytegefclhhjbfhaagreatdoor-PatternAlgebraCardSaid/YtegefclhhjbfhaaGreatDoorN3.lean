/- A part of the proof. -/
import Derived.Test.YtegefclhhjbfhaaGreatDoorN2
import Derived.Test.YtegefclhhjbfhaaGreatDoorX2
import Derived.Test.YtegefclhhjbfhaaGreatDoorX1
import Derived.Test.YtegefclhhjbfhaaGreatDoorN1
import Derived.Test.YtegefclhhjbfhaaGreatDoorX3
import Derived.Test.YtegefclhhjbfhaaGreatDoorX4
import Derived.Test.YtegefclhhjbfhaaGreatDoorX5
set_option linter.unusedVariables false
set_option linter.unusedSimpArgs false
set_option maxRecDepth 1000000
set_option maxHeartbeats 2000000
namespace Go.T9
open Go Go.AM Go.MK Go.Proofs.Tryz
noncomputable section
variable {H:HH}{o st wk:Le}{js:Lg}{i n0 wc:Nat}{S:QS}{t0:T AObj}
theorem K5(K2:KF)(o:Le)(els els3:Lh)(st:Le)(wes:Ents)(wc:Nat)(wk:Le)(es:Ents)(ck:Nat)(mt:Le)(gM:Nat->Option AObj)(gH:Nat->Option AObj)(gM':Nat->Option AObj)(ρf:Nat->Lk):jQtE K2 o els els3 st wes wc wk es ck mt gM gH gM' ρf=((H_ (rhoX [(0,0),(1,1),(3,3),(4,4),(5,5),(6,6),(7,7),(12,12),(13,13)] ρf) (i_ o)/\H_ (rhoX [(0,0),(1,1),(3,3),(4,4),(5,5),(6,6),(7,7),(12,12),(13,13)] ρf) (i_ st)/\H_ (rhoX [(0,0),(1,1),(3,3),(4,4),(5,5),(6,6),(7,7),(12,12),(13,13)] ρf) (J3 wes wc)/\ROX (rhoX [(0,0),(1,1),(3,3),(4,4),(5,5),(6,6),(7,7),(12,12),(13,13)] ρf) (o_ els 49) (o_ els3 49)/\H_ (rhoX [(0,0),(1,1),(3,3),(4,4),(5,5),(6,6),(7,7),(12,12),(13,13)] ρf) (i_ wk)/\True)/\IdTo 9 (rhoX [(0,0),(1,1),(3,3),(4,4),(5,5),(6,6),(7,7),(12,12),(13,13)] ρf)/\RQ [(0,0),(1,1),(3,3),(4,4),(5,5),(6,6),(7,7),(12,12),(13,13)] ρf [2,8] 8388544/\(FQ (rhoX [(0,0),(1,1),(3,3),(4,4),(5,5),(6,6),(7,7),(12,12),(13,13)] ρf) [([true,true,true,true,true,true],gM),([false,false,false,false,false,false],gH)] [true,true,true,true,true,true] gM' []/\FQ (rhoX [(0,0),(1,1),(3,3),(4,4),(5,5),(6,6),(7,7),(12,12),(13,13)] ρf) [([true,true,true,true,true,true],gM),([false,false,false,false,false,false],gH)] [false,false,false,false,false,false] (λ(x:Nat)=>none) []/\True)/\K2 (Sg J6) (V_ (Ns (J5 (J5 (t_ (T.fn gM')) (r_ [h_ 13 0 wk.length] 49)) (i_ st)) (i_ o) (Ns Lf (J3 wes wc) (Sg (i_ wk)))) (Kc 1 0 o.length 12 els.length 85) (No (Ns Lf (T_ 5 127) (Sg (o_ els3 49))) (Ns Lf (r_ [m_] 82) (y_ (No Lf (T.fn λ(x:Nat)=>none))))) 8388544)):=by kernel_rfl
theorem Dy:type_of%(by have h:=@K5;revert h;delta b_ h_ i_ m_ o_ r_ t_ y_ H_ T_ V_ J3 J5 J6 Kc;exact id):=@K5
theorem K6(K2:KF)(o:Le)(els:Lh)(st:Le)(wes:Ents)(wc:Nat)(wk:Le)(gM:Nat->Option AObj)(ρf:Nat->Lk):jQtF K2 o els st wes wc wk gM ρf=((H_ (rhoX [(0,0),(1,1),(3,3),(4,4),(5,5),(6,6),(7,7),(12,2),(13,8)] ρf) (i_ o)/\H_ (rhoX [(0,0),(1,1),(3,3),(4,4),(5,5),(6,6),(7,7),(12,2),(13,8)] ρf) (i_ st)/\H_ (rhoX [(0,0),(1,1),(3,3),(4,4),(5,5),(6,6),(7,7),(12,2),(13,8)] ρf) (J3 wes wc)/\H_ (rhoX [(0,0),(1,1),(3,3),(4,4),(5,5),(6,6),(7,7),(12,2),(13,8)] ρf) (o_ els 49)/\H_ (rhoX [(0,0),(1,1),(3,3),(4,4),(5,5),(6,6),(7,7),(12,2),(13,8)] ρf) (i_ wk)/\True)/\IdTo 9 (rhoX [(0,0),(1,1),(3,3),(4,4),(5,5),(6,6),(7,7),(12,2),(13,8)] ρf)/\RQ [(0,0),(1,1),(3,3),(4,4),(5,5),(6,6),(7,7),(12,2),(13,8)] ρf [2,8] 8388544/\(FQ (rhoX [(0,0),(1,1),(3,3),(4,4),(5,5),(6,6),(7,7),(12,2),(13,8)] ρf) [([true,true,true,true,true,true],gM),([false,false,false,false,false,false],λ(x:Nat)=>none)] [true,true,true,true,true,true] gM []/\FQ (rhoX [(0,0),(1,1),(3,3),(4,4),(5,5),(6,6),(7,7),(12,2),(13,8)] ρf) [([true,true,true,true,true,true],gM),([false,false,false,false,false,false],λ(x:Nat)=>none)] [false,false,false,false,false,false] (λ(x:Nat)=>none) []/\True)/\K2 (Sg J6) (V_ (Ns (J5 (J5 (t_ (T.fn gM)) (r_ [h_ 13 0 wk.length] 49)) (i_ st)) (i_ o) (Ns Lf (J3 wes wc) (Sg (i_ wk)))) (Kc 1 0 o.length 12 els.length 85) (No (Ns Lf (T_ 5 127) (Sg (o_ els 49))) (Ns Lf (r_ [m_] 82) (y_ (No Lf (T.fn λ(x:Nat)=>none))))) 8388544)):=by kernel_rfl
theorem Dx:type_of%(by have h:=@K6;revert h;delta b_ h_ i_ m_ o_ r_ t_ y_ H_ T_ V_ J3 J5 J6 Kc;exact id):=@K6
def bZ(H:HH)(S:QS):La:=S.mem++S.js.map λj=>(aI H).getD j []
def hE(st:Le)(o:Le)(all:La)(W:List (Int×Bool×Nat))(wc:Nat)(wk:Le):AH:=hQ (liE o (sls (memN all)) st (esW W) wc wk) (ae all) (λ_=>none) 8388544
def fE(n0:Nat)(js:Lg)(i:Nat):Lk:=if i<n0 then some (T.numF pM i)else(js[i-n0]?).map (T.numF pH)
def rE(n0:Nat)(js:Lg):Nat->Lk:=rho2 pM (fE n0 js) pH (λ_=>none)
theorem mv{B x:Nat}(h:rE n0 js B=some x):∃ i,B=64*i+63/\((i<n0/\x=64*i+63)∨(n0<=i/\∃ k:i-n0<js.length,x=64*js[i-n0]+126)):=by rcases nY h with⟨i,b,a⟩|⟨i,b,a⟩;rw[numM]at b;unfold fE at a;split at a;rename_i c;cases a;exact⟨i,b,.inl ⟨c,numM i⟩⟩;rename_i c;rw[JH]at a;obtain⟨j,g,f⟩:=a;obtain⟨e,d⟩:=GE.1 g;exact⟨i,b,.inr ⟨by omega,e,by rw[d,<-f,numH]⟩⟩;cases a
theorem rE_M(h:i<n0):rE n0 js (T.numF pM i)=some (T.numF pM i):=qU (by unfold fE;rw[Gw h])
theorem rE_H{u:Nat}(h:u<js.length):rE n0 js (T.numF pM (n0+u))=some (T.numF pH js[u]):=qU (by unfold fE;rw[D' (by omega),JE,E' h];rfl)
theorem nd_inj{l:Lg}(h:l.Nodup){j:Nat}(d:i<l.length)(b:j<l.length)(e:l[i]=l[j]):i=j:=by have a:=List.pairwise_iff_getElem.1 h;rcases Nat.lt_trichotomy i j with c|c|c;exact absurd e (a i j d b c);exact c;exact absurd e.symm (a j i b d c)
theorem RQ_rE{m:Ld}(q:(m.all λx=>okN 20 21 x.2)=true)(y:n0+js.length<=131000)(w:∀ j∈js,j<=100000)(p:js.Nodup):RQ m (rE n0 js) [] 8388544:=by
 refine⟨λt B h=>?_,λA z B _ _ s r=>?_,λx n t _ h=>?_⟩;obtain⟨i,k,a⟩:=mv h;rcases a with⟨a,b⟩|⟨a,b,g⟩<;>omega;obtain⟨i,k,a⟩:=mv s;obtain⟨l,v,c⟩:=mv r;rcases a with⟨a,b⟩|⟨a,b,g⟩<;>rcases c with⟨c,d⟩|⟨c,d,u⟩;omega;omega;omega;have e:js[i-n0]=js[l-n0]:=by omega
 have:=nd_inj p b d e;omega;have f:=Hc.1 q x n;have f:=odt f;obtain⟨i,k,a⟩:=mv h;rcases a with⟨a,b⟩|⟨a,b,g⟩<;>omega
theorem idQE{a b:Nat}(ρ:Nat->Lk):IdTo 9 (rhoX (mE a b) (rD ρ)):=λB c=>by
 have:B=0∨B=1∨B=2∨B=3∨B=4∨B=5∨B=6∨B=7∨B=8:=by omega
 rcases this with rfl|rfl|rfl|rfl|rfl|rfl|rfl|rfl|rfl<;>rfl
theorem bS?{mem:La}(h:i<mem.length):(memN mem)[i]? =some (T.numF pM i,mem[i].length):=by unfold memN;rw[Jn,E' h];rfl
theorem cF(H:HH)(S:QS):(bZ H S).length=S.mem.length+S.js.length:=by unfold bZ;rw[Gx,GB]
theorem u6(h:i<S.mem.length):(bZ H S)[i]? =some S.mem[i]:=by unfold bZ;rw[Hn h,E' h]
theorem u7{u:Nat}(h:u<S.js.length):(bZ H S)[S.mem.length+u]? =some ((aI H).getD S.js[u] []):=by unfold bZ;rw[Hy (by omega),JE,GR,E' h];rfl
theorem cV{ρ:Nat->Lk}{a:FamL}{p:Li}{l:List (Nat×Nat×AObj)}:FQ ρ a p (λ_=>none) l:=λi b h=>by cases h
theorem end_Q{N w0:Nat}(l:SI N n0 w0 i S)(w:i<=H.length)(v:n0+S.js.length<=131000)(x:H.length<=100000):Turns env ⟨t0,9⟩ 1 frE (hL2 H st S) frE (hE st S.o (bZ H S) S.W S.wc S.wk):=by
 have q:=l.n0;have r:=l.jl;have g:okB (mE 12 13)=true:=by kernel_rfl
 have c:∀ t,t<S.mem.length->rhoX (mE 12 13) (rD (rE S.mem.length S.js)) (T.numF pM t)=some (T.numF pM t):=λt h=>(cf g _ t).trans ((rD_M _ t).trans (rE_M h));have d:∀ u (h:u<S.js.length),rhoX (mE 12 13) (rD (rE S.mem.length S.js)) (T.numF pM (S.mem.length+u))=some (T.numF pH S.js[u]):=λu h=>(cf g _ _).trans ((rD_M _ _).trans (rE_H h));have p:∀ u (h:u<S.js.length),S.js[u]<H.length:=λu h=>by have:=l.jm _ (GH h);omega
 have k:(sls (memN (bZ H S))).length=(sls (elN S.mem H S.js)).length:=by rw[bd,bd,aJ,cF,dC]
 obtain⟨y,z,⟨rfl,rfl⟩,m⟩:=bg (E:=env) an (A0:=⟨t0,9⟩) (n:=1) (λF A=>F=frE/\A=hE st S.o (bZ H S) S.W S.wc S.wk) frE (hL2 H st S) ((Dy _ S.o (sls (elN S.mem H S.js)) (sls (memN (bZ H S))) st (esW S.W) S.wc S.wk (esS (hmL H)) H.length (aF H) (ae S.mem) (ae (aI H)) (ae (bZ H S)) (rD (rE S.mem.length S.js))).mpr (by
  refine⟨⟨ai _ _,ai _ _,dt _ _ _,du (by rw[aJ,cF,dC]) ?_,ai _ _,trivial⟩,idQE _,uf (by omega) (RQ_rE (by kernel_rfl) (by omega) (λj h=>by have:=l.jm j h;omega) l.nd),⟨?_,cV,trivial⟩,show _=_/\_=_ from⟨by kernel_rfl,?_⟩⟩;intro t h;rw[dC]at h;rcases ff h with a|⟨u,a,rfl⟩;have b:t<(bZ H S).length:=by rw[cF];omega
  have e:=u6 (H:=H) a;rw[E' b]at e;exact⟨T.numF pM t,T.numF pM t,S.mem[t].length,kQ a,by rw[bS? b,Hk e],c t a⟩;have b:S.mem.length+u<(bZ H S).length:=by rw[cF];omega
  have e:=u7 (H:=H) a;rw[E' b]at e;exact⟨T.numF pH S.js[u],T.numF pM (S.mem.length+u),((aI H).getD S.js[u] []).length,oQ a,by rw[bS? b,Hk e],d u a⟩;intro t s m;obtain⟨b,rfl⟩:=bv m;have f:=b;rw[cF]at f;rcases ff f with a|⟨u,a,rfl⟩;have e:=u6 (H:=H) a;rw[E' b]at e;exact .inr ⟨(pM,ae S.mem),t,_,by simp[pM],c t a,bM a,by rw[Hk e];exact ai _ _⟩;have e:=u7 (H:=H) a;rw[E' b]at e;refine .inr ⟨(pH,ae (aI H)),S.js[u],_,by simp[pH],d u a,bM (by rw[bf];exact p u a),?_⟩;rw[Hk e,iG (p u a),jo (p u a)];exact ai _ _;have e:hE st S.o (bZ H S) S.W S.wc S.wk=hQ [(0,.cells [groS 1 S.o.length,groS 12 (sls (elN S.mem H S.js)).length] 85),(1,groI S.o),(3,groI st),(4,.cells [.map (some 5)] 127),(5,.map (esW S.W) S.wc),(6,.cells [.pointer (some ⟨0,0,none⟩)] 82),(7,.cells [groS 13 S.wk.length] 49),(12,groE (sls (memN (bZ H S)))),(13,groI S.wk)] (ae (bZ H S)) (λ_=>none) 8388544:=by unfold hE liE;rw[k]
  exact Eq.trans (by kernel_rfl) e.symm))
 exact m
def hF(o st:Le)(mem:La)(W:List (Int×Bool×Nat))(wc:Nat)(wk:Le):AH:=hQ (liQ o (sls (memN mem)) st (esW W) wc wk++[(8388544,.cells [.pointer (some ⟨0,0,none⟩)] 82)]) (ae mem) (λ_=>none) 8388545
theorem end_F{mem:La}{W:List (Int×Bool×Nat)}(d:mem.length<=100000):Turns env ⟨t0,9⟩ 1 frE (hF o st mem W wc wk) frE (hE st o mem W wc wk):=by
 have b:okB (mE 2 8)=true:=by kernel_rfl
 have a:∀ t,t<mem.length->rhoX (mE 2 8) (rD (rE mem.length [])) (T.numF pM t)=some (T.numF pM t):=λt h=>(cf b _ t).trans ((rD_M _ t).trans (rE_M h));obtain⟨e,f,⟨rfl,rfl⟩,c⟩:=bg (E:=env) an (A0:=⟨t0,9⟩) (n:=1) (λF A=>F=frE/\A=hE st o mem W wc wk) frE (hF o st mem W wc wk) ((Dx _ o (sls (memN mem)) st (esW W) wc wk (ae mem) (rD (rE mem.length []))).mpr ⟨⟨ai _ _,ai _ _,dt _ _ _,dQ a,ai _ _,trivial⟩,idQE _,uf (by omega) (RQ_rE (by kernel_rfl) (by show mem.length+0<=131000;omega) (λj h=>by cases h) List.nodup_nil),⟨nJ (by simp[pM]) a,cV,trivial⟩,by kernel_rfl,by kernel_rfl⟩);exact c
theorem Fu(mem:La)(H:HH):elN mem H []=memN mem:=by unfold elN frN;simp
def frP1(n:Nat):T Value:=(Nd (Nd (Nd (Nd Lf (some (groS 8388546 0)) (Nd Lf (some (.int .i64 0)) Lf)) (some (.pointer (some ⟨8388544,0,none⟩))) Lf) none (Nd Lf none (Nd (Nd Lf (some (groS 3 n)) Lf) none Lf))) none (Nd Lf (some (cCut 4 6 7)) (Nd Lf (some (.map (some 8388545))) (Nd (Nd Lf (some (.int .i64 n)) Lf) none Lf))))
def hP1(o:Le)(mem:La)(st:Le)(W:List (Int×Bool×Nat))(wc:Nat)(wk:Le):AH:=hQ (liQ o (sls (memN mem)) st (esW W) wc wk++[(8388544,.cells [.pointer (some ⟨0,0,none⟩)] 82),(8388545,.map [] 0),(8388546,.gro [] [] 3)]) (ae mem) (λ_=>none) 8388547
theorem turn1{mem:La}{W:List (Int×Bool×Nat)}(d:mem.length<=100000):Turns env ⟨t0,9⟩ nQ (frP1 st.length) (hP1 o mem st W wc wk) (frQ1 st.length 0 0) (hL1 o mem st W wc wk []):=by
 have b:okB (mQ [(9,8388544),(10,8388545),(11,8388546)])=true:=by kernel_rfl
 have a:∀ t,t<mem.length->rhoX (mQ [(9,8388544),(10,8388545),(11,8388546)]) (rQ mem.length mem.length 20 0 0 21) (T.numF pM t)=some (T.numF pM t):=λt h=>(cf b _ t).trans (i9 (by omega) h);obtain⟨e,f,⟨rfl,rfl⟩,c⟩:=bg (E:=env) an (A0:=⟨t0,9⟩) (n:=nQ) (λF A=>F=frQ1 st.length 0 0/\A=hL1 o mem st W wc wk []) (frP1 st.length) (hP1 o mem st W wc wk) ((DA _ o (sls (memN mem)) st (esW W) wc wk (ae mem) (rQ mem.length mem.length 20 0 0 21)).mpr ⟨⟨ai _ _,dQ a,ai _ _,dt _ _ _,ai _ _,.of (.map .nil),ai _ [],trivial⟩,idQ _ _,kU (by kernel_rfl) (by kernel_rfl) (by kernel_rfl) (by omega) (by omega) (by omega) (by omega) (by omega) (by omega) (by omega),⟨nJ (by simp[pM]) a,cV,trivial⟩,by kernel_rfl,by kernel_rfl⟩);exact c
theorem turn2{mem:La}{W:List (Int×Bool×Nat)}(f:mem.length<=100000)(g:H.length<=100000):Turns env ⟨t0,9⟩ nQ (frQ2 (aF H).length 0) (hL1 o mem st W wc wk H) (frQ2 (aF H).length 0) (hL2 H st ⟨o,mem,[],W,wc,wk⟩):=by
 have c:okB (mQ2 [(12,2),(13,8)])=true:=by kernel_rfl
 have a:∀ t,t<mem.length->rhoX (mQ2 [(12,2),(13,8)]) (rD (rQ mem.length mem.length 20 H.length H.length 21)) (T.numF pM t)=some (T.numF pM t):=λt h=>(cf c _ t).trans ((rD_M _ t).trans (i9 (by omega) h));have b:∀ t,t<H.length->rhoX (mQ2 [(12,2),(13,8)]) (rD (rQ mem.length mem.length 20 H.length H.length 21)) (T.numF pH t)=some (T.numF pH t):=λt h=>(iS c _ t).trans ((rD_H _ t).trans (n7 (by omega) h));have e:hL2 H st ⟨o,mem,[],W,wc,wk⟩=hQ (liQ2 o (sls (memN mem)) st (esW W) wc wk (esS (hmL H)) H.length (aF H)) (ae mem) (ae (aI H)) 8388544:=by unfold hL2;show hQ (liQ2 o (sls (elN mem H [])) st (esW W) wc wk (esS (hmL H)) H.length (aF H)) (ae mem) (ae (aI H)) 8388544=_;rw[Fu]
 rw[e];obtain⟨j,k,⟨rfl,rfl⟩,d⟩:=bg (E:=env) an (A0:=⟨t0,9⟩) (n:=nQ) (λF A=>F=frQ2 (aF H).length 0/\A=hQ (liQ2 o (sls (memN mem)) st (esW W) wc wk (esS (hmL H)) H.length (aF H)) (ae mem) (ae (aI H)) 8388544) (frQ2 (aF H).length 0) (hL1 o mem st W wc wk H) ((Dz _ o (sls (memN mem)) st (esW W) wc wk (esS (hmL H)) H.length (aF H) (ae mem) (ae (aI H)) (rD (rQ mem.length mem.length 20 H.length H.length 21))).mpr ⟨⟨ai _ _,ai _ _,dt _ _ _,iq rfl (λt h=>⟨H[t]'(by rw[<-bL H];exact h) |>.1,T.numF pH t,T.numF pH t,(H[t]'(by rw[<-bL H];exact h)).2.length,t,ct (by rw[<-bL H];exact h),ct (by rw[<-bL H];exact h),b t (by rw[<-bL H];exact h)⟩),ai _ _,dQ a,ai _ _,trivial⟩,idQ2 _ (by kernel_rfl) (by kernel_rfl),uf (by omega) (kU (by kernel_rfl) (by kernel_rfl) (by kernel_rfl) (by omega) (by omega) (by omega) (by omega) (by omega) (by omega) (by omega)),⟨nJ (by simp[pM]) a,nJ (by simp[pH]) (λt h=>b t (by rw[<-bf H];exact h)),trivial⟩,by kernel_rfl,by kernel_rfl⟩);exact d
theorem Bn{P Q:Int->Prop}{b s:Int}(f:P b)(d:Q s):∀ {H:HH},(∀x∈H,P x.1/\∀ y∈x.2,Q y)->∀ x∈hAdd b s H,P x.1/\∀ y∈x.2,Q y
 | [],h,x,a=>by
  have:x=(b,[s]):=by simpa[hAdd]using a
  subst this;exact⟨f,λy c=>by
   have:y=s:=by simpa using c
   rw[this];exact d⟩
 | z::H,h,x,a=>by
  have a:x∈(if z.1=b then(b,z.2++[s])::H else z::hAdd b s H):=a;split at a;rcases GI.1 a with e|e;subst e;refine⟨f,λy c=>?_⟩;rcases GW.1 (show y∈z.2++[s]from c)with h1|h1;exact(h z GU).2 y h1;have:y=s:=by simpa using h1
  rw[this];exact d;exact h x (GS _ e);rcases GI.1 a with e|e;rw[e];exact h z GU;exact Bn f d (λx a=>h x (GS _ a)) x e
theorem Bl{P Q:Int->Prop}{o:Le}:∀ {l:Le}{H:HH},(∀s∈l,P (o.getD s.toNat 0)/\Q s)->(∀x∈H,P x.1/\∀ y∈x.2,Q y)->∀ x∈hAll o l H,P x.1/\∀ y∈x.2,Q y
 | [],H,_,h=>h
 |s::l,H,hl,h=>Bl (l:=l) (λt a=>hl t (GS _ a)) (Bn (hl s GU).1 (hl s GU).2 h)
def qEnd(o st:Le)(mem:La)(W:List (Int×Bool×Nat))(wc:Nat)(wk:Le):QS:=qAll 0 (hAll o st []) ⟨o,mem,[],W,wc,wk⟩
def hEnd(o st:Le)(mem:La)(W:List (Int×Bool×Nat))(wc:Nat)(wk:Le):AH:=hE st (qEnd o st mem W wc wk).o (bZ (hAll o st []) (qEnd o st mem W wc wk)) (qEnd o st mem W wc wk).W (qEnd o st mem W wc wk).wc (qEnd o st mem W wc wk).wk
def hBeg(o st:Le)(mem:La)(W:List (Int×Bool×Nat))(wc:Nat)(wk:Le):AH:=hQ (liQ o (sls (memN mem)) st (esW W) wc wk) (ae mem) (λ_=>none) 8388544
theorem kX{mem:La}{W:List (Int×Bool×Nat)}(f:∀ s∈st,0<=s/\s<o.length)(w:∀ x∈o,0<=x/\x<mem.length)(u:∀ r∈mem,r.length<=100000/\∀ x∈r,0<=x/\x<(o.length:Int))(C:o.length<=100000)(E:st.length<=100000)(m:mem.length<=100000)(q:wk.length<=500000)(v:mem.length+(qEnd o st mem W wc wk).js.length<=131000):
 WalkK env f77 9 [.pointer (some ⟨0,0,none⟩),groS 3 st.length,cCut 4 6 7] (hBeg o st mem W wc wk) (.tuple ⟨[]⟩) (hEnd o st mem W wc wk):=by
 have y:(hBeg o st mem W wc wk).next=8388544:=by kernel_rfl
 refine sW XQ_ok (d:=1) (k:=9) (by rw[y];omega) ((jQ0_nf _ (hBeg o st mem W wc wk).t o (sls (memN mem)) st (esW W) wc wk (ae mem)).mpr (Sp.intro (λc=>?_) (λc=>?_)));have c:=odt c;have:st=[]:=Hb (by omega);subst this;have e:hEnd o [] mem W wc wk=hE [] o mem W wc wk:=by show hE [] o (mem++[]) W wc wk=_;rw[GG]
 rw[e];exact⟨frE,frE,by kernel_rfl,by kernel_rfl,Eq.mp (by kernel_rfl) (end_F (t0:=(hBeg o [] mem W wc wk).t) (o:=o) (st:=[]) (W:=W) (wc:=wc) (wk:=wk) m)⟩;refine C6 (o:=o) (st:=st) (mem:=mem) (W:=W) (wc:=wc) (wk:=wk) f (by omega) (by omega) (λg=>?_) (Turns.trans (Turns.pick slQ1 (F1:=frP1 st.length) (by kernel_rfl)) (Eq.mp (by kernel_rfl) (turn1 (t0:=(hBeg o st mem W wc wk).t) (o:=o) (st:=st) (W:=W) (wc:=wc) (wk:=wk) m)));have F:=g.len;have h:=Bl (P:=λb=>0<=b/\b<(mem.length:Int)) (Q:=λs=>0<=s/\s<(o.length:Int)) (o:=o) (l:=st) (H:=[]) (λs n=>⟨by
  have:=f s n;have p:s.toNat<o.length:=by omega
  rw[gD p];exact w _ (GH p),f s n⟩) (λx a=>by cases a)
 have B:HP o.length mem.length (hAll o st []):=⟨λx a=>(h x a).1,λx a=>by have:=g.le x a;omega,λx a=>(h x a).2⟩;have D:SI o.length mem.length wk.length 0 ⟨o,mem,[],W,wc,wk⟩:=⟨rfl,rfl,by simp,(λj z=>by cases z),u,by simp,List.nodup_nil⟩;refine C5 g.nd B C m (by omega) q D (λA=>⟨frE,frE,by kernel_rfl,by kernel_rfl,end_Q A (GK _) v (by omega)⟩) (Turns.trans (Turns.pick slQ2 (F1:=frQ2 (aF (hAll o st [])).length 0) (by kernel_rfl)) (turn2 m (by omega)))
end
end Go.T9
set_option maxHeartbeats 1000000
namespace Go.T9
open Go Go.AM Go.MK
noncomputable section
abbrev _root_.Go.IU:=@List.not_mem_nil
def pL:Li:=[false,false,false,false,false,false,false,false,false,false,false,false,false,false,false,false,false,false,false,false,false,false,false]
variable {B i n:Nat}
theorem numL(i:Nat):T.numF pL i=8388608*i+16777214:=by simp[pL,T.numF];omega
theorem rR{a:List (Nat×AObj)}{j c:Nat->Option AObj}{nx:Nat}{o:AObj}(h:(hQ a j c nx).t.get B=some o):(B,o)∈a∨(∃i,B=T.numF pM i/\j i=some o)∨(∃i,B=T.numF pH i/\c i=some o):=by unfold hQ at h;split at h;rename_i t q;split at h;rename_i k f;have b:(match iR [(pH,c)] t with|some d=>T.setFn pM d j|none=>none)=some k:=f;split at b;rename_i d e;have p:T.setFn pH t c=some d:=e;have h:k.get B=some o:=h;by_cases m:T.InF pM B;obtain⟨i,rfl⟩:=m;rw[Jk b]at h;exact .inr (.inl ⟨i,rfl,h⟩);rw[Ja b B m]at h;by_cases l:T.InF pH B;obtain⟨i,rfl⟩:=l;rw[Jk p]at h;exact .inr (.inr ⟨i,rfl,h⟩);rw[Ja p B l]at h;rcases dy q h with g|g;exact .inl g;simp[T.get]at g;cases b;simp[T.get]at h;simp[T.get]at h
def liG(o:Le)(els:Lh)(st:Le)(wes:Ents)(wc:Nat)(wk:Le):List (Nat×AObj):=
 [(4,.cells [groS 5 o.length,groS 6 els.length] 85),(5,groI o),(6,groE els),(14,groI st),(10,.cells [.map (some 11)] 127),(11,.map wes wc),(7,.cells [.pointer (some ⟨4,0,none⟩)] 82),(8,.cells [groS 9 wk.length] 49),(9,groI wk)]
def liA(o:Le)(els:Lh)(st:Le)(wes:Ents)(wc:Nat)(wk:Le):List (Nat×AObj):=
 [(4,.cells [groS 5 o.length,groS 9000000 els.length] 85),(5,groI o),(14,groI st),(10,.cells [.map (some 11)] 127),(11,.map wes wc),(7,.cells [.pointer (some ⟨4,0,none⟩)] 82),(8,.cells [groS 9000001 wk.length] 49),(9000000,groE els),(9000001,groI wk)]
def memL(mem:La):Ld:=mem.mapIdx λi r=>(T.numF pL i,r.length)
theorem di(mem:La):(memL mem).length=mem.length:=Jz
theorem pF{mem:La}(h:i<mem.length):(memL mem)[i]? =some (T.numF pL i,mem[i].length):=by unfold memL;rw[Jn,E' h];rfl
def tP(lits:List (Nat×AObj))(p:Li)(g:Nat->Option AObj):T AObj:=match ofL lits .leaf with
 | some t=>(match T.setFn p t g with
   |some t1=>t1
   |none=>.leaf)
 |none=>.leaf
theorem An{a:List (Nat×AObj)}{p:Li}{g:Nat->Option AObj}{o:AObj}(h:(tP a p g).get B=some o):(B,o)∈a∨∃ i,B=T.numF p i/\g i=some o:=by unfold tP at h;split at h;rename_i t e;split at h;rename_i f d;by_cases c:T.InF p B;obtain⟨i,rfl⟩:=c;rw[Jk d]at h;exact .inr ⟨i,rfl,h⟩;rw[Ja d B c]at h;rcases dy e h with b|b;exact .inl b;simp[T.get]at b;simp[T.get]at h;simp[T.get]at h
def hAft(o st:Le)(mem:La)(W:List (Int×Bool×Nat))(wc:Nat)(wk:Le)(keep:List (Nat×AObj)):AH:=
 ⟨tP (liA (qEnd o st mem W wc wk).o (sls (memL (bZ (hAll o st []) (qEnd o st mem W wc wk)))) st (esW (qEnd o st mem W wc wk).W) (qEnd o st mem W wc wk).wc (qEnd o st mem W wc wk).wk++keep) pL (ae (bZ (hAll o st []) (qEnd o st mem W wc wk))),800000000000⟩
structure SpOk (o st:Le) (mem:La) (W:List (Int×Bool×Nat)) (wc:Nat) (wk:Le):Prop where
 hst:∀ s∈st,0<=s/\s<(o.length:Int)
 ho:∀ x∈o,0<=x/\x<(mem.length:Int)
 hr:∀ r∈mem,r.length<=100000/\∀ x∈r,0<=x/\x<(o.length:Int)
 hN:o.length<=100000
 hn:st.length<=100000
 hm:mem.length<=100000
 hw:wk.length<=500000
 hj:mem.length+(qEnd o st mem W wc wk).js.length<=95000
def getL(t:T AObj)(l:Lg):List (Option AObj):=l.map t.get
theorem gS{t:T AObj}:∀ {l:List (Nat×AObj)},getL t (l.map (·.1))=l.map (λx=>some x.2)->∀ x∈l,t.get x.1=some x.2
 | [],_,x,hx=>by cases hx
 |y::l,h,x,hx=>by have h:t.get y.1::getL t (l.map (·.1))=some y.2::l.map (λx=>some x.2):=h;rw[JP]at h;rcases GI.1 hx with e|e;rw[e];exact h.1;exact gS h.2 x e
def rA(keep:List (Nat×AObj)):Bool:=keep.all λx=>decide (x.1<=13/\x.1≠4/\x.1≠5/\x.1≠6/\x.1≠7/\x.1≠8/\x.1≠9/\x.1≠10/\x.1≠11)
def spDv(o st:Le)(mem:La)(W:List (Int×Bool×Nat))(wc:Nat)(wk:Le)(keep:List (Nat×AObj)):RunF:=λargs A=>
 some (some (args=[.pointer (some ⟨4,0,none⟩),groS 14 st.length,cCut 10 7 8]/\(Nat.ble A.next 8388606&&rA keep)=true/\getL A.t ((liG o (sls (memN mem)) st (esW W) wc wk).map (·.1))=(liG o (sls (memN mem)) st (esW W) wc wk).map (λx=>some x.2)/\getL A.t (keep.map (·.1))=keep.map (λx=>some x.2)/\T.getFn pM A.t=some (ae mem)/\SpOk o st mem W wc wk),
  .tuple ⟨[]⟩,hAft o st mem W wc wk keep)
def mG:Ld:=[(0,4),(1,5),(2,6),(3,14),(4,10),(5,11),(6,7),(7,8),(8,9)]
def mG2:Ld:=[(4,0),(5,1),(14,3),(10,4),(11,5),(7,6),(8,7),(9000000,12),(9000001,13)]
def fG(p:Li)(n i:Nat):Lk:=if i<n then some (T.numF p i)else none
def rG(n:Nat):Nat->Lk:=rhoX mG (rhoP pM (fG pM n))
def rG2(n:Nat):Nat->Lk:=rhoX mG2 (rhoP pL (fG pM n))
theorem qh{p:Li}{x:Nat}(h:fG p n i=some x):i<n/\x=T.numF p i:=by unfold fG at h;split at h;rename_i e;cases h;exact⟨e,rfl⟩;cases h
theorem mq(h:rG n i=some B):(i,B)∈mG∨∃ t,t<n/\i=64*t+63/\B=64*t+63:=by unfold rG rhoX at h;split at h;rename_i x a;cases h;exact .inl (aX a);obtain⟨t,e,d⟩:=cR h;obtain⟨c,b⟩:=qh d;exact .inr ⟨t,c,by rw[e,numM],by rw[b,numM]⟩
theorem jf(h:rG2 n B=some i):(B,i)∈mG2∨∃ t,t<n/\B=8388608*t+16777214/\i=64*t+63:=by unfold rG2 rhoX at h;split at h;rename_i x a;cases h;exact .inl (aX a);obtain⟨t,e,d⟩:=cR h;obtain⟨c,b⟩:=qh d;exact .inr ⟨t,c,by rw[e,numL],by rw[b,numM]⟩
theorem th(h:(i,B)∈mG):(i=0/\B=4)∨(i=1/\B=5)∨(i=2/\B=6)∨(i=3/\B=14)∨(i=4/\B=10)∨(i=5/\B=11)∨(i=6/\B=7)∨(i=7/\B=8)∨(i=8/\B=9):=by simpa[mG]using h
theorem j6(h:(B,i)∈mG2):(B=4/\i=0)∨(B=5/\i=1)∨(B=14/\i=3)∨(B=10/\i=4)∨(B=11/\i=5)∨(B=7/\i=6)∨(B=8/\i=7)∨(B=9000000/\i=12)∨(B=9000001/\i=13):=by simpa[mG2]using h
theorem rG_M{t:Nat}(h:t<n):rG n (T.numF pM t)=some (T.numF pM t):=by unfold rG;rw[cf (by kernel_rfl),iu];unfold fG;rw[Gw h]
theorem nX{m:Ld}{ρ:Nat->Lk}(h:back m B=none):rhoX m ρ B=ρ B:=by unfold rhoX;rw[h]
theorem rG2_L{t:Nat}(h:t<n):rG2 n (T.numF pL t)=some (T.numF pM t):=by
 have d:back mG2 (T.numF pL t)=none:=kI λx c e=>by obtain⟨a,b⟩:=x;have f:=j6 c;rw[numL]at e;have e:a=8388608*t+16777214:=e;omega
 unfold rG2;rw[nX d,iu];unfold fG;rw[Gw h]
theorem rT(b s:Int):∀ (H:HH),(hAdd b s H).length<=H.length+1
 | []=>by simp[hAdd]
 |x::H=>by show(if x.1=b then(b,x.2++[s])::H else x::hAdd b s H).length<=_;split;simp;have:=rT b s H;simp only[GY];omega
theorem mX(o:Le):∀ (l:Le) (H:HH),(hAll o l H).length<=H.length+l.length
 | [],H=>GK _
 |s::l,H=>by have b:=mX o l (hAdd (o.getD s.toNat 0) s H);have a:=rT (o.getD s.toNat 0) s H;show(hAll o l (hAdd (o.getD s.toNat 0) s H)).length<=_;simp only[GY];omega
theorem u5(S:QS)(i b:Nat)(r:Le):(eU S i b r).mem.length=S.mem.length/\(eU S i b r).js.length<=S.js.length+1:=by unfold eU;split;exact⟨rfl,by omega⟩;exact⟨GP,by show(S.js++[i]).length<=_;rw[Gx];simp⟩
theorem jh:∀ (H:HH) (i:Nat) (S:QS),(qAll i H S).mem.length=S.mem.length/\(qAll i H S).js.length<=S.js.length+H.length
 | [],i,S=>⟨rfl,GK _⟩
 |x::H,i,S=>by obtain⟨b,d⟩:=jh H (i+1) (eU S i x.1.toNat x.2);obtain⟨a,c⟩:=u5 S i x.1.toNat x.2;exact⟨b.trans a,by show(qAll (i+1) H (eU S i x.1.toNat x.2)).js.length<=_;simp only[GY];omega⟩
theorem dv_tab(o st:Le)(mem:La)(W:List (Int×Bool×Nat))(wc:Nat)(wk:Le)(g:List (Nat×AObj)):∀ args A p v A',spDv o st mem W wc wk g args A=some (p,v,A')->PH p->CallAt env 77 args A v A':=by
 intro args A p v A' h E;unfold spDv at h;cases h;obtain⟨rfl,y,K,H,L,b⟩:=E;simp only[f',GO]at y;obtain⟨F,s⟩:=y;have u:=gS H;have d:=gS K;have Q:hBeg o st mem W wc wk=⟨(hBeg o st mem W wc wk).t,8388544⟩:=by kernel_rfl
 have q:=(kX (W:=W) (wc:=wc) b.hst b.ho b.hr b.hN (by have:=b.hn;omega) (by have:=b.hm;omega) b.hw (by have:=b.hj;omega)).call ak (f:=77) rfl;rw[Q]at q;have r:=jh (hAll o st []) 0 ⟨o,mem,[],W,wc,wk⟩;have I:=mX o st [];have z:(bZ (hAll o st []) (qEnd o st mem W wc wk)).length<=95000:=by rw[cF];have c:(qEnd o st mem W wc wk).mem.length=mem.length:=r.1;have:=b.hj;omega
 generalize C:qEnd o st mem W wc wk=S at*;have N:hEnd o st mem W wc wk=hE st S.o (bZ (hAll o st []) S) S.W S.wc S.wk:=by unfold hEnd;rw[C]
 rw[N]at q;generalize M:bZ (hAll o st []) S=all at*;have O:hAft o st mem W wc wk g=⟨tP (liA S.o (sls (memL all)) st (esW S.W) S.wc S.wk++g) pL (ae all),800000000000⟩:=by unfold hAft;rw[C,M]
 rw[O];have G:=b.hm;refine er (ρ:=rG mem.length) (ρ2:=rG2 all.length) (t1:=(hBeg o st mem W wc wk).t) (k1:=8388544) ⟨λi m h J=>?_,λi m h J=>?_,λi j B m x _ _ _ _ c a=>?_,λi B h=>?_⟩ ?_ q (by omega) (λB i R h=>?_) (λB i h=>?_) (λV U i m x _ _ _ _ c a=>?_) (.tuple .nil) (λB m h=>?_);rcases rR h with a|⟨j,rfl,a⟩|⟨j,_,a⟩;simp only[liQ,GI,GC,IU,Jl]at a;rcases a with⟨rfl,rfl⟩|⟨rfl,rfl⟩|⟨rfl,rfl⟩|⟨rfl,rfl⟩|⟨rfl,rfl⟩|⟨rfl,rfl⟩|⟨rfl,rfl⟩|⟨rfl,rfl⟩|⟨rfl,rfl⟩;exact⟨4,_,rfl,d (4,_) (.head _),.of (.cells (.cons (.slice rfl) (.cons (.slice rfl) .nil)))⟩;exact⟨5,_,rfl,d (5,_) (.tail _ (.head _)),ai _ _⟩;exact⟨6,_,rfl,d (6,_) (.tail _ (.tail _ (.head _))),dQ λt l=>rG_M l⟩;exact⟨14,_,rfl,d (14,_) (.tail _ (.tail _ (.tail _ (.head _)))),ai _ _⟩;exact⟨10,_,rfl,d (10,_) (.tail _ (.tail _ (.tail _ (.tail _ (.head _))))),.of (.cells (.cons (.map rfl) .nil))⟩;exact⟨11,_,rfl,d (11,_) (.tail _ (.tail _ (.tail _ (.tail _ (.tail _ (.head _)))))),dt _ _ _⟩;exact⟨7,_,rfl,d (7,_) (.tail _ (.tail _ (.tail _ (.tail _ (.tail _ (.tail _ (.head _))))))),.of (.cells (.cons (.ptr rfl) .nil))⟩;exact⟨8,_,rfl,d (8,_) (.tail _ (.tail _ (.tail _ (.tail _ (.tail _ (.tail _ (.tail _ (.head _)))))))),.of (.cells (.cons (.slice rfl) .nil))⟩;exact⟨9,_,rfl,d (9,_) (.tail _ (.tail _ (.tail _ (.tail _ (.tail _ (.tail _ (.tail _ (.tail _ (.head _))))))))),ai _ _⟩;have k:=a;obtain⟨c,rfl⟩:=bv k;exact⟨T.numF pM j,_,rG_M c,by rw[IQ L];exact a,ai _ _⟩;cases a;rcases rR h with a|⟨j,rfl,a⟩|⟨j,_,a⟩;simp only[liQ,GI,GC,IU,Jl]at a;rcases a with⟨rfl,rfl⟩|⟨rfl,rfl⟩|⟨rfl,rfl⟩|⟨rfl,rfl⟩|⟨rfl,rfl⟩|⟨rfl,rfl⟩|⟨rfl,rfl⟩|⟨rfl,rfl⟩|⟨rfl,rfl⟩<;>rfl;obtain⟨c,rfl⟩:=bv a;rfl;cases a;rcases mq c with c|⟨t,_,c,k⟩<;>rcases mq a with a|⟨D,_,a,P⟩;have:=th c;have:=th a;omega;have:=th c;omega;have:=th a;omega;omega;rcases mq h with h|⟨t,_,c,k⟩;have:=th h;omega;omega;exact .cons (.ptr rfl) (.cons (.slice rfl) (.cons (.func rfl .nil (.cons (.ptr rfl) (.cons (.ptr rfl) (.cons (.ptr rfl) .nil)))) .nil));rcases jf h with h|⟨t,_,c,k⟩;rcases j6 h with⟨rfl,rfl⟩|⟨rfl,rfl⟩|⟨rfl,rfl⟩|⟨rfl,rfl⟩|⟨rfl,rfl⟩|⟨rfl,rfl⟩|⟨rfl,rfl⟩|⟨rfl,rfl⟩|⟨rfl,rfl⟩;exact⟨by omega,rfl⟩;exact⟨by omega,rfl⟩;exact⟨by omega,rfl⟩;exact⟨by omega,rfl⟩;exact⟨by omega,rfl⟩;exact⟨by omega,rfl⟩;exact⟨by omega,rfl⟩;omega;omega;omega;rcases jf h with h|⟨t,_,c,k⟩;have:=j6 h;omega;omega;rcases jf c with c|⟨t,_,c,k⟩<;>rcases jf a with a|⟨D,_,a,P⟩;have:=j6 c;have:=j6 a;omega;have:=j6 c;omega;have:=j6 a;omega;omega;rcases An h with a|⟨j,rfl,a⟩;rcases GW.1 a with a|a;simp only[liA,GI,GC,IU,Jl]at a;rcases a with⟨rfl,rfl⟩|⟨rfl,rfl⟩|⟨rfl,rfl⟩|⟨rfl,rfl⟩|⟨rfl,rfl⟩|⟨rfl,rfl⟩|⟨rfl,rfl⟩|⟨rfl,rfl⟩|⟨rfl,rfl⟩;refine .inl ⟨0,.cells [groS 1 S.o.length,groS 12 (sls (memN all)).length] 85,rfl,by kernel_rfl,?_⟩;rw[show(sls (memL all)).length=(sls (memN all)).length from by rw[bd,bd,di,aJ]];exact .of (.cells (.cons (.slice rfl) (.cons (.slice rfl) .nil)));exact .inl ⟨1,groI S.o,rfl,by kernel_rfl,ai _ _⟩;exact .inl ⟨3,groI st,rfl,by kernel_rfl,ai _ _⟩;exact .inl ⟨4,.cells [.map (some 5)] 127,rfl,by kernel_rfl,.of (.cells (.cons (.map rfl) .nil))⟩;exact .inl ⟨5,.map (esW S.W) S.wc,rfl,by kernel_rfl,dt _ _ _⟩;exact .inl ⟨6,.cells [.pointer (some ⟨0,0,none⟩)] 82,rfl,by kernel_rfl,.of (.cells (.cons (.ptr rfl) .nil))⟩;exact .inl ⟨7,.cells [groS 13 S.wk.length] 49,rfl,by kernel_rfl,.of (.cells (.cons (.slice rfl) .nil))⟩;refine .inl ⟨12,groE (sls (memN all)),rfl,by kernel_rfl,du (by rw[di,aJ]) λt l=>?_⟩;rw[aJ]at l;exact⟨T.numF pM t,T.numF pL t,all[t].length,bS? l,pF l,rG2_L l⟩;exact .inl ⟨13,groI S.wk,rfl,by kernel_rfl,ai _ _⟩;have hd:=odt (Hc.1 s _ a);refine .inr ⟨u _ a,λi x _ _ e=>?_⟩;rcases mq e with e|⟨t,_,c,k⟩;have:=th e;omega;omega;have k:=a;obtain⟨c,rfl⟩:=bv k;have w:T.getFn pM (hE st S.o all S.W S.wc S.wk).t=some (ae all):=by kernel_rfl
 exact .inl ⟨T.numF pM j,_,rG2_L c,by rw[IQ w];exact a,ai _ _⟩
end
end Go.T9
namespace Go.T9
open Go Go.AM Go.MK Go.Proofs.Tryz
noncomputable section
noncomputable def nB:Nat:=Func.ntmps f78
noncomputable def bB:Code:=au f78
def outV(Z:La):Value:=dat 1 (roV Z)
def outE(D:List La)(k:Nat):Lh:=D.map outV++List.replicate k nilS
def outM(D:List La)(m k:Nat):Lh:=D.map outV++groS 5 m::List.replicate k nilS
def hB(lits:List (Nat×AObj))(g:Nat->Option AObj)(nx:Nat):AH:=⟨tP lits pM g,nx⟩
def liB(C F:Le)(ac:Li)(rw:La):List (Nat×AObj):=[(0,dfO C [groS 1 F.length,groS 2 ac.length,groS 3 rw.length]),(1,groI F),(2,groB ac),(3,groR rw)]
def groO(els:Lh):AObj:=.gro els [] 23
def frB(n c:Nat):T Value:=(Nd (Nd (Nd (Nd (Nd Lf (some (.int .i64 c)) Lf) none Lf) (some (groS 4 n)) Lf) none (Nd Lf none (Nd Lf (some (groS 4 n)) Lf))) (some (.pointer (some ⟨0,0,none⟩))) (Nd Lf none (Nd Lf none (Nd Lf (some (.int .i64 n)) Lf))))
def frBI(n m c s:Nat):T Value:=(Nd (Nd (Nd (Nd (Nd (Nd Lf (some (.int .i64 m)) Lf) (some (.int .i64 c)) Lf) none Lf) (some (groS 4 n)) Lf) none (Nd Lf none (Nd Lf (some (groS 4 n)) Lf))) (some (.pointer (some ⟨0,0,none⟩))) (Nd (Nd (Nd (Nd (Nd Lf (some (.int .i64 s)) Lf) none Lf) none Lf) (some (.int .i64 c)) Lf) none (Nd Lf none (Nd Lf (some (.int .i64 n)) (Nd Lf (some (groS 3 m)) Lf)))))
def elBk(v:Value)(n:Nat)(hk:List (NPos×TypeId×Nat)):El:={El.of (λ_ t els i=>bif Nat.beq t 35 then some (.func (.yield 1) ⟨ah els i⟩ ⟨[]⟩)else bif inL t [39,47]then some (groS 5 n)else bif Nat.beq t 53 then some v else some (.int .i64 (aa els i)))with app:=true,gm:=λ_=>true,hk:=λd=>match d with|some 54=>hk|_=>[]}
def XBk(v:Value)(n:Nat)(hk:List (NPos×TypeId×Nat)):SX:=⟨env,[],elBk v n hk,λ_=>.raw⟩
def XB:SX:=XBk nilS 0 []
def zr(K:KV):KX:=finK XB.E (f78.results).toList K
def jB0(K:KV)(C F:Le)(ac:Li)(rw:La):Prop:=bc XB 1 f78 [.pointer (some ⟨0,0,none⟩)] (hDf C F ac rw) K
def pB1:Lg:=[1,1,0,1,0]
def jB1(K:KV)(again:KF)(C F:Le)(ac:Li)(rw:La)(els:Lh)(c:Nat):Prop:=
 bJ XB XB 1 nB (hDf C F ac rw) bB pB1 (zr K) again (frB els.length c) (hB (liB C F ac rw++[(4,groO els)]) (λ_=>none) 8388544)
def pB2:Lg:=[1,1,0,0,1,1,1,0]
noncomputable def kB1(K:KV)(again:KF)(C F:Le)(ac:Li)(rw:La):KX:=stepR XB 1 nB (hDf C F ac rw) bB pB1 (zr K) again
def mB:Ld:=[(0,0),(1,1),(2,2),(3,3),(4,4)]
def ovB(F:Le)(ac:Li)(rw:La)(els:Lh):List (Nat×AObj):=[(1,groI F),(2,groB ac),(3,groR rw),(4,groO els)]
def slB1:Lg:=[0,3,13,14,15]
def slB2:Lg:=[0,3,4,13,14,15,30,31,32]
def jB2(K:KV)(again K2:KF)(C F:Le)(ac:Li)(rw:La)(els zs zs3:Lh)(g g3:Nat->Option AObj)(c s z:Nat)(r:Le)(ρf:Nat->Lk):Prop:=
 bJ (XBk (groS 8388544 r.length) rw.length []) XB 1 nB (hDf C F ac rw) (aE (subC pB1 bB)) pB2 (kB1 K again C F ac rw) (cg 4 [] (ovB F ac rw els++[(5,groE zs3)]) (mB++[(5,5)]) slB2 8388544 [(pM,g3,[(z,8388568)])] ρf K2) (frBI els.length rw.length c s) (hB (liB C F ac rw++[(4,groO els),(5,groE zs),(8388544,groI r)]) g 8388545)
def jB2e(K:KV)(again K2:KF)(C F:Le)(ac:Li)(rw:La)(els zs:Lh)(g:Nat->Option AObj)(c:Nat):Prop:=
 bJ (XBk nilS rw.length []) XB 1 nB (hDf C F ac rw) (aE (subC pB1 bB)) pB2 (kB1 K again C F ac rw) K2 (frBI els.length rw.length c rw.length) (hB (liB C F ac rw++[(4,groO els),(5,groE zs)]) g 8388544)
def hBk(C F:Le)(ac:Li)(rw:La)(els:Lh):AH:=⟨(Nd (Nd (Nd Lf (some (groR rw)) Lf) (some (groI F)) Lf) (some (dfO C [groS 1 F.length,groS 2 ac.length,groS 3 rw.length])) (Nd (Nd Lf (some (groO els)) Lf) (some (groB ac)) Lf)),5⟩
def jBt1(K2:KF)(C F:Le)(ac:Li)(rw:La)(els:Lh)(ρf:Nat->Lk):Prop:=
 cg 4 [] (ovB F ac rw els) mB slB1 8388544 [(pM,λ_=>none,[])] ρf K2 (frB els.length 0) (hBk C F ac rw els)
def jBt2(K2:KF)(C F:Le)(ac:Li)(rw:La)(els els3 zs zs3:Lh)(g3:Nat->Option AObj)(c:Nat)(ρf:Nat->Lk)(NL:Nat->Prop):Prop:=
 Ca 4 [] (ovB F ac rw els3++[(5,groE zs3)]) (mB++[(5,8388544)]) slB2 8388544 [(pM,g3,[])] ρf NL K2 (frBI els.length rw.length c 0) (hB (liB C F ac rw++[(4,groO els),(8388544,groE zs)]) (λ_=>none) 8388545)
def jBt3(K2:KF)(C F:Le)(ac:Li)(rw:La)(els:Lh)(c:Int)(ρf:Nat->Lk):Prop:=
 cg 4 [] (ovB F ac rw els) mB slB1 8388544 [(pM,λ_=>none,[])] ρf K2 ((.node (.node (.node (.node (.node .leaf (some (.int .i64 c)) .leaf) none .leaf) (some (groS 4 els.length)) .leaf) none (.node .leaf none (.node .leaf (some (groS 4 els.length)) .leaf))) (some (.pointer (some ⟨0,0,none⟩))) (.node .leaf none (.node .leaf none (.node .leaf (some (.int .i64 els.length)) .leaf))))) (hB (liB C F ac rw++[(4,groO els),(5,.dead)]) (λ_=>none) 8388544)
def jBtE(K2:KF)(C F:Le)(ac:Li)(rw:La)(els:Lh):Prop:=
 cg 4 [] (ovB F ac rw els) mB [0] 5 [] (λ_=>none) K2 ((.node .leaf (some (groS 4 els.length)) .leaf)) (hB (liB C F ac rw++[(4,groO els)]) (λ_=>none) 8388544)
theorem K7(K:KV)(C:Le)(F:Le)(ac:Li)(rw:La):jB0 K C F ac rw=((0<=u_ F.length/\u_ F.length<=u_ F.length/\u_ F.length<=281474976710656/\24*List.length F<=281474976710656)/\LAtZ XB 1 f78.ntmps (hDf C F ac rw) (au f78) [1,1,0,1,0] (finK (SX.E XB) f78.results.toList K) (Ns (No (Ns (Ns (J9 0) m_ Lf) (h_ 4 0 F.length) (J9 (u_ F.length))) (No (Sg (f_ 0 256)) (Sg (h_ 4 0 F.length)))) m_ (Ns (No (Sg m_) (Sg (h_ 4 0 F.length))) C_ (No (Sg (h_ 1 0 F.length)) (J9 (u_ F.length))))) (V_ (J5 (Sg (L_ rw)) (i_ F)) (d_ C F.length ac.length rw.length) (J5 (Sg (o_ (List.replicate F.length C_) 23)) (X_ ac)) 5)):=by kernel_rfl
theorem jB0_nf:type_of%(by have h:=@K7;revert h;delta b_ d_ f_ h_ i_ m_ o_ u_ C_ L_ V_ X_ J5 J9;exact id):=@K7
theorem K8(K:KV)(again:KF)(C:Le)(F:Le)(ac:Li)(rw:La)(els:Lh)(c:Nat):jB1 K again C F ac rw els c=(Sp (decide ((c:Int)<u_ els.length)) ((0<=u_ rw.length/\u_ rw.length<=u_ rw.length/\u_ rw.length<=281474976710656/\24*List.length rw<=281474976710656)/\(0<=(c:Int)/\(c:Int)<u_ els.length)/\c<List.length els/\LAtZ XB 1 nB (hDf C F ac rw) (aE (subC pB1 bB)) [1,1,0,0,1,1,1,0] (stepR XB 1 nB (hDf C F ac rw) bB pB1 (zr K) again) (Ns (No (Ns (No (J5 (J9 (u_ rw.length)) (Vi c)) (Sg (h_ 3 0 rw.length))) (h_ 4 0 els.length) (No (J9 c) (Sg m_))) (No (No (J9 c) (Sg (h_ 8388544 0 rw.length))) (Ns (Sg m_) (h_ 4 0 els.length) (Sg (f_ 0 258))))) m_ (No (Ns (No (J5 (J9 0) (Value.bool true)) (J9 (u_ rw.length))) (Vi c) (No (Sg m_) (Sg m_))) (No (No (Sg (h_ 4 0 els.length)) (Sg (w_ 1 4 0 c))) (Ns (Sg (f_ 0 258)) (Vi (u_ els.length)) (Sg (h_ 3 0 rw.length)))))) (V_ (J5 (J5 (t_ (No (T.fn λ(x:Nat)=>none) Lf)) (L_ rw)) (i_ F)) (d_ C F.length ac.length rw.length) (J5 (J5 (t_ (No (a_ (a_ (y_ (y_ (Sg (o_ (List.replicate rw.length C_) 49)))))) Lf)) (o_ (List.set els c (h_ 8388544 0 rw.length)) 23)) (X_ ac)) 8388545)) (K (h_ 4 0 els.length) (V_ (J5 (J5 (t_ (No (T.fn λ(x:Nat)=>none) Lf)) (L_ rw)) (i_ F)) (d_ C F.length ac.length rw.length) (J5 (Sg (o_ els 23)) (X_ ac)) 8388544))):=by kernel_rfl
theorem Bg:type_of%(by have h:=@K8;revert h;delta a_ b_ d_ f_ h_ i_ m_ o_ t_ u_ w_ y_ C_ L_ V_ X_ J5 J9;exact id):=@K8
theorem K9(K:KV)(again:KF)(K2:KF)(C:Le)(F:Le)(ac:Li)(rw:La)(els zs zs3:Lh)(g:Nat->Option AObj)(g3:Nat->Option AObj)(c s z:Nat)(r:Le)(ρf:Nat->Lk):jB2 K again K2 C F ac rw els zs zs3 g g3 c s z r ρf=(Sp (decide ((s:Int)<u_ rw.length)) ((0<=(s:Int)/\(s:Int)<u_ rw.length)/\nth (roV rw) s=some (Vd 1 (ah (roV rw) s))/\(0<=(c:Int)/\(c:Int)<u_ els.length)/\nth els c=some (h_ 5 0 rw.length)/\(0<=(c:Int)/\(c:Int)<p_ (ah (roV rw) s))/\nth (ah (roV rw) s) c=some (Vi (aa (ah (roV rw) s) c))/\(0<=(c:Int)/\(c:Int)<u_ els.length)/\nth els c=some (h_ 5 0 rw.length)/\(0<=(c:Int)/\(c:Int)<p_ (ah (roV rw) s))/\nth (ah (roV rw) s) c=some (Vi (aa (ah (roV rw) s) c))/\(0<=aa (ah (roV rw) s) c/\aa (ah (roV rw) s) (c:Int)<u_ rw.length)/\nth zs (v_ (B_ (ah (roV rw) s) c))=some (h_ 8388544 0 r.length)/\(List.all [Vi s] cellv=true/\List.length r+0=List.length (inV r)/\List.length r+(1:Nat)<=(70368744177664:Nat)/\(List.length r+1)*(8:Nat)<=(140737488355328:Nat))/\nth (ah (roV rw) s) c=some (Vi (aa (ah (roV rw) s) c))/\Vi (aa (ah (roV rw) s) c)=Vi (aa (ah (roV rw) s) c)/\nth els c=some (h_ 5 0 rw.length)/\Value.slice (some ⟨5,0,none⟩) rw.length 18446744073709551620=Value.slice (some ⟨5,0,none⟩) rw.length 18446744073709551620/\(0<=aa (ah (roV rw) s) c/\aa (ah (roV rw) s) (c:Int)<u_ rw.length)/\Int.toNat (B_ (ah (roV rw) s) c)<List.length zs/\(H_ (rhoX [(0,0),(1,1),(2,2),(3,3),(4,4),(5,5)] ρf) (i_ F)/\H_ (rhoX [(0,0),(1,1),(2,2),(3,3),(4,4),(5,5)] ρf) (X_ ac)/\H_ (rhoX [(0,0),(1,1),(2,2),(3,3),(4,4),(5,5)] ρf) (L_ rw)/\H_ (rhoX [(0,0),(1,1),(2,2),(3,3),(4,4),(5,5)] ρf) (o_ els 23)/\ROX (rhoX [(0,0),(1,1),(2,2),(3,3),(4,4),(5,5)] ρf) (o_ (List.set zs (v_ (B_ (ah (roV rw) s) c)) (h_ 8388568 0 (List.length r+1))) 49) (o_ zs3 49)/\True)/\Kb C/\IdTo 4 (rhoX [(0,0),(1,1),(2,2),(3,3),(4,4),(5,5)] ρf)/\RQ [(0,0),(1,1),(2,2),(3,3),(4,4),(5,5)] ρf [] 8388544/\(FQ (rhoX [(0,0),(1,1),(2,2),(3,3),(4,4),(5,5)] ρf) [([true,true,true,true,true,true],g)] [true,true,true,true,true,true] g3 [(z,8388568,AObj.gro (inV r) [Vi s] 3)]/\True)/\K2 (Ns (No (J5 (No (J5 (J9 (u_ rw.length)) (Vi c)) Lf) (h_ 4 0 els.length)) (No Lf (Sg (h_ 4 0 els.length)))) m_ (No (J5 (t_ (z_ ((s:Int)+1))) (Vi c)) (No Lf (Ns Lf (Vi (u_ els.length)) (Sg (h_ 3 0 rw.length)))))) (V_ (Ns (J5 (t_ (No (T.fn g3) Lf)) (L_ rw)) (i_ F) (Sg (o_ zs3 49))) (d_ C F.length ac.length rw.length) (J5 (Sg (o_ els 23)) (X_ ac)) 8388544)) (again (Ns (No (J5 (No (J5 (J9 (u_ rw.length)) (Vi (IntKind.wrap .i64 ((c:Int)+1)))) Lf) (h_ 4 0 els.length)) (No (t_ (Sg (Value.bool false))) (Sg (h_ 4 0 els.length)))) m_ (No (Ns (t_ (J9 s)) (Vi c) (y_ (z_ ((c:Int)+1)))) (No Lf (Ns Lf (Vi (u_ els.length)) (Sg (h_ 3 0 rw.length)))))) (V_ (Ns (J5 (t_ (No (T.fn g) Lf)) (L_ rw)) (i_ F) (Sg (o_ zs 49))) (d_ C F.length ac.length rw.length) (J5 (J5 (t_ (No (a_ (a_ (y_ (y_ (Sg (i_ r)))))) Lf)) (o_ els 23)) (X_ ac)) 8388545))):=by kernel_rfl
theorem jB2_nf:type_of%(by have h:=@K9;revert h;delta a_ b_ d_ h_ i_ l_ m_ o_ p_ t_ u_ v_ y_ z_ B_ H_ L_ V_ X_ J5 J9 Kb;exact id):=@K9
theorem Lm(K:KV)(again:KF)(K2:KF)(C:Le)(F:Le)(ac:Li)(rw:La)(els zs:Lh)(g:Nat->Option AObj)(c:Nat):jB2e K again K2 C F ac rw els zs g c=(Sp (decide (u_ rw.length<u_ rw.length)) ((0<=u_ rw.length/\u_ rw.length<u_ rw.length)/\nth (roV rw) (v_ (u_ (List.length rw+0)))=some (Vd 1 (P_ rw (List.length rw+0)))/\(0<=(c:Int)/\(c:Int)<u_ els.length)/\nth els c=some (h_ 5 0 rw.length)/\(0<=(c:Int)/\(c:Int)<p_ (P_ rw (List.length rw+0)))/\nth (P_ rw (List.length rw+0)) c=some (Vi (aa (P_ rw (List.length rw+0)) c))/\(0<=(c:Int)/\(c:Int)<u_ els.length)/\nth els c=some (h_ 5 0 rw.length)/\(0<=(c:Int)/\(c:Int)<p_ (P_ rw (List.length rw+0)))/\nth (P_ rw (List.length rw+0)) c=some (Vi (aa (P_ rw (List.length rw+0)) c))/\(0<=aa (P_ rw (List.length rw+0)) c/\aa (P_ rw (List.length rw+0)) (c:Int)<u_ rw.length)/\nth zs (v_ (B_ (P_ rw (List.length rw+0)) c))=some C_/\nth (P_ rw (List.length rw+0)) c=some (Vi (aa (P_ rw (List.length rw+0)) c))/\Vi (aa (P_ rw (List.length rw+0)) c)=Vi (aa (P_ rw (List.length rw+0)) c)/\nth els c=some (h_ 5 0 rw.length)/\Value.slice (some ⟨5,0,none⟩) rw.length 18446744073709551620=Value.slice (some ⟨5,0,none⟩) rw.length 18446744073709551620/\(0<=aa (P_ rw (List.length rw+0)) c/\aa (P_ rw (List.length rw+0)) (c:Int)<u_ rw.length)/\Int.toNat (B_ (P_ rw (List.length rw+0)) c)<List.length zs/\K2 (Ns (No (Ns (No (Ns (J9 (u_ rw.length)) (Vi c) (Sg (w_ 1 4 0 c))) (No (Sg (w_ 1 4 0 c)) (J9 (u_ rw.length)))) (h_ 4 0 els.length) (No (No (Sg (w_ 1 3 0 (u_ (List.length rw+0)))) (Sg (Value.func (.yield 1) (Array.mk (P_ rw (List.length rw+0))) (Array.mk [Vi c,Vi 0])))) (No (Sg (Value.func (.yield 1) (Array.mk (P_ rw (List.length rw+0))) (Array.mk [Vi c,Vi 0]))) (z_ (u_ rw.length+1))))) (Ns (No (No (Sg (Value.bool true)) (Sg (Vd 1 (P_ rw (List.length rw+0))))) (No (Sg (Vd 1 (P_ rw (List.length rw+0)))) (Sg (J1 8388567 0 1 18446744073709551616)))) (Vi (u_ rw.length)) (Ns (No (Sg (h_ 4 0 els.length)) (Sg (w_ 1 5 0 (B_ (P_ rw (List.length rw+0)) c)))) (h_ 4 0 els.length) (I_ (h_ 4 0 els.length))))) m_ (No (Ns (No (No (z_ (u_ rw.length+1)) (Sg (h_ 5 0 rw.length))) (No (Sg (h_ 5 0 rw.length)) (Sg (Value.slice (some ⟨8388563,0,none⟩) 1 1)))) (Vi c) (No (No (Sg (Vd 1 (P_ rw (List.length rw+0)))) (J9 (aa (P_ rw (List.length rw+0)) c))) (I_ (Vi (aa (P_ rw (List.length rw+0)) c))))) (Ns (No (No (J9 (u_ rw.length)) (J9 c)) (No (J9 c) (Sg (w_ 1 5 0 (B_ (P_ rw (List.length rw+0)) c))))) (Vd 1 (P_ rw (List.length rw+0))) (Ns (No (J9 c) (Sg C_)) (Vi (u_ els.length)) (J5 (J9 c) (h_ 3 0 rw.length)))))) (V_ (Ns (Ns (No (t_ (T.fn g)) (No Lf (No (a_ (a_ (y_ (y_ (Sg (r_ [Vi (u_ rw.length)] 3)))))) Lf))) (L_ rw) (W_ (No (a_ (a_ (y_ (y_ (Sg (r_ [Vi (u_ rw.length)] 3)))))) Lf))) (i_ F) (Sg (o_ (List.set zs (v_ (B_ (P_ rw (List.length rw+0)) c)) (J1 8388567 0 1 18446744073709551616)) 49))) (d_ C F.length ac.length rw.length) (J5 (Sg (o_ els 23)) (X_ ac)) 8388568)) (again (Ns (No (J5 (No (J5 (J9 (u_ rw.length)) (Vi (IntKind.wrap .i64 ((c:Int)+1)))) Lf) (h_ 4 0 els.length)) (No (t_ (Sg (Value.bool false))) (Sg (h_ 4 0 els.length)))) m_ (No (Ns (t_ (J9 (u_ rw.length))) (Vi c) (y_ (z_ ((c:Int)+1)))) (No Lf (Ns Lf (Vi (u_ els.length)) (Sg (h_ 3 0 rw.length)))))) (V_ (Ns (J5 (t_ (No (T.fn g) Lf)) (L_ rw)) (i_ F) (Sg (o_ zs 49))) (d_ C F.length ac.length rw.length) (J5 (Sg (o_ els 23)) (X_ ac)) 8388544))):=by kernel_rfl
theorem D7:type_of%(by have h:=@Lm;revert h;delta a_ b_ d_ f_ h_ i_ m_ o_ p_ r_ t_ u_ v_ w_ y_ z_ B_ C_ I_ L_ P_ V_ W_ X_ J1 J5 J9;exact id):=@Lm
theorem Ln(K2:KF)(C:Le)(F:Le)(ac:Li)(rw:La)(els:Lh)(ρf:Nat->Lk):jBt1 K2 C F ac rw els ρf=((H_ (rhoX [(0,0),(1,1),(2,2),(3,3),(4,4)] ρf) (i_ F)/\H_ (rhoX [(0,0),(1,1),(2,2),(3,3),(4,4)] ρf) (X_ ac)/\H_ (rhoX [(0,0),(1,1),(2,2),(3,3),(4,4)] ρf) (L_ rw)/\H_ (rhoX [(0,0),(1,1),(2,2),(3,3),(4,4)] ρf) (o_ els 23)/\True)/\Kb C/\IdTo 4 (rhoX [(0,0),(1,1),(2,2),(3,3),(4,4)] ρf)/\RQ [(0,0),(1,1),(2,2),(3,3),(4,4)] ρf [] 8388544/\(FQ (rhoX [(0,0),(1,1),(2,2),(3,3),(4,4)] ρf) [([true,true,true,true,true,true],λ(x:Nat)=>none)] [true,true,true,true,true,true] (λ(x:Nat)=>none) []/\True)/\K2 (Ns (No (J5 (I_ (Vi 0)) (h_ 4 0 els.length)) (No Lf (Sg (h_ 4 0 els.length)))) m_ (y_ (J9 (u_ els.length)))) (V_ (J5 (J5 (t_ (No (T.fn λ(x:Nat)=>none) Lf)) (L_ rw)) (i_ F)) (d_ C F.length ac.length rw.length) (J5 (Sg (o_ els 23)) (X_ ac)) 8388544)):=by kernel_rfl
theorem D5:type_of%(by have h:=@Ln;revert h;delta b_ d_ h_ i_ l_ m_ o_ t_ u_ y_ H_ I_ L_ V_ X_ J5 J9 Kb;exact id):=@Ln
theorem Lo(K2:KF)(C:Le)(F:Le)(ac:Li)(rw:La)(els els3 zs zs3:Lh)(g3:Nat->Option AObj)(c:Nat)(ρf:Nat->Lk)(NL:Nat->Prop):jBt2 K2 C F ac rw els els3 zs zs3 g3 c ρf NL=((H_ (rhoX [(0,0),(1,1),(2,2),(3,3),(4,4),(5,8388544)] ρf) (i_ F)/\H_ (rhoX [(0,0),(1,1),(2,2),(3,3),(4,4),(5,8388544)] ρf) (X_ ac)/\H_ (rhoX [(0,0),(1,1),(2,2),(3,3),(4,4),(5,8388544)] ρf) (L_ rw)/\ROX (rhoX [(0,0),(1,1),(2,2),(3,3),(4,4),(5,8388544)] ρf) (o_ els 23) (o_ els3 23)/\ROX (rhoX [(0,0),(1,1),(2,2),(3,3),(4,4),(5,8388544)] ρf) (o_ zs 49) (o_ zs3 49)/\True)/\Kb C/\IdTo 4 (rhoX [(0,0),(1,1),(2,2),(3,3),(4,4),(5,8388544)] ρf)/\RQ [(0,0),(1,1),(2,2),(3,3),(4,4),(5,8388544)] ρf [] 8388544/\NLOk [(0,0),(1,1),(2,2),(3,3),(4,4),(5,8388544)] ρf NL 8388544/\(FQN (rhoX [(0,0),(1,1),(2,2),(3,3),(4,4),(5,8388544)] ρf) NL [([true,true,true,true,true,true],λ(x:Nat)=>none)] [true,true,true,true,true,true] g3 []/\True)/\K2 (Ns (No (J5 (No (J5 (J9 (u_ rw.length)) (Vi c)) Lf) (h_ 4 0 els.length)) (No Lf (Sg (h_ 4 0 els.length)))) m_ (No (J5 (t_ (J9 0)) (Vi c)) (No Lf (Ns Lf (Vi (u_ els.length)) (Sg (h_ 3 0 rw.length)))))) (V_ (Ns (J5 (t_ (No (T.fn g3) Lf)) (L_ rw)) (i_ F) (Sg (o_ zs3 49))) (d_ C F.length ac.length rw.length) (J5 (Sg (o_ els3 23)) (X_ ac)) 8388544)):=by kernel_rfl
theorem D4:type_of%(by have h:=@Lo;revert h;delta b_ d_ h_ i_ l_ m_ o_ t_ u_ H_ L_ V_ X_ J5 J9 Kb;exact id):=@Lo
theorem Lp(K2:KF)(C:Le)(F:Le)(ac:Li)(rw:La)(els:Lh)(c:Int)(ρf:Nat->Lk):jBt3 K2 C F ac rw els c ρf=((H_ (rhoX [(0,0),(1,1),(2,2),(3,3),(4,4)] ρf) (i_ F)/\H_ (rhoX [(0,0),(1,1),(2,2),(3,3),(4,4)] ρf) (X_ ac)/\H_ (rhoX [(0,0),(1,1),(2,2),(3,3),(4,4)] ρf) (L_ rw)/\H_ (rhoX [(0,0),(1,1),(2,2),(3,3),(4,4)] ρf) (o_ els 23)/\True)/\Kb C/\IdTo 4 (rhoX [(0,0),(1,1),(2,2),(3,3),(4,4)] ρf)/\RQ [(0,0),(1,1),(2,2),(3,3),(4,4)] ρf [] 8388544/\(FQ (rhoX [(0,0),(1,1),(2,2),(3,3),(4,4)] ρf) [([true,true,true,true,true,true],λ(x:Nat)=>none)] [true,true,true,true,true,true] (λ(x:Nat)=>none) []/\True)/\K2 (Ns (No (J5 (I_ (Vi c)) (h_ 4 0 els.length)) (No Lf (Sg (h_ 4 0 els.length)))) m_ (y_ (J9 (u_ els.length)))) (V_ (J5 (J5 (t_ (No (T.fn λ(x:Nat)=>none) Lf)) (L_ rw)) (i_ F)) (d_ C F.length ac.length rw.length) (J5 (Sg (o_ els 23)) (X_ ac)) 8388544)):=by kernel_rfl
theorem D3:type_of%(by have h:=@Lp;revert h;delta b_ d_ h_ i_ l_ m_ o_ t_ u_ y_ H_ I_ L_ V_ X_ J5 J9 Kb;exact id):=@Lp
theorem Lq(K2:KF)(C:Le)(F:Le)(ac:Li)(rw:La)(els:Lh):jBtE K2 C F ac rw els=((ROX (rhoX [(0,0),(1,1),(2,2),(3,3),(4,4)] λ(x:Nat)=>none) (i_ F) (i_ F)/\ROX (rhoX [(0,0),(1,1),(2,2),(3,3),(4,4)] λ(x:Nat)=>none) (X_ ac) (X_ ac)/\ROX (rhoX [(0,0),(1,1),(2,2),(3,3),(4,4)] λ(x:Nat)=>none) (L_ rw) (L_ rw)/\ROX (rhoX [(0,0),(1,1),(2,2),(3,3),(4,4)] λ(x:Nat)=>none) (o_ els 23) (o_ els 23)/\True)/\Kb C/\IdTo 4 (rhoX [(0,0),(1,1),(2,2),(3,3),(4,4)] λ(x:Nat)=>none)/\RQ [(0,0),(1,1),(2,2),(3,3),(4,4)] (λ(x:Nat)=>none) [] 5/\True/\K2 (Sg (h_ 4 0 els.length)) (V_ (J5 (Sg (L_ rw)) (i_ F)) (d_ C F.length ac.length rw.length) (J5 (Sg (o_ els 23)) (X_ ac)) 5)):=by kernel_rfl
theorem D0:type_of%(by have h:=@Lq;revert h;delta b_ d_ h_ i_ l_ o_ L_ V_ X_ J5 Kb;exact id):=@Lq
theorem uF{ρ:Nat->Lk}:∀ {a d b c:Lh},RVs ρ a d->RVs ρ b c->RVs ρ (a++b) (d++c)
 |_,_,_,_,.nil,h=>h
 |_,_,_,_,.cons x t,h=>.cons x (uF t h)
theorem k7{ρ:Nat->Lk}{l:Lh}{e:TypeId}(h:∀ x∈l,HF x)(a:∀ x∈l,fM x):ROX ρ (.gro l [] e) (.gro l [] e):=.row (by rw[GG];exact a) a (by rw[GG];exact RVs.hf h)
theorem c1_bl(l:Li):∀ x∈blV l,fM x:=λx a=>by obtain⟨b,_,rfl⟩:=GA.1 a;rfl
theorem c1_ro(l:La):∀ x∈roV l,fM x:=λx a=>by obtain⟨b,_,rfl⟩:=GA.1 a;rfl
theorem ga(ρ:Nat->Lk)(l:Li):ROX ρ (.gro (blV l) [] 4) (.gro (blV l) [] 4):=k7 (aG l) (c1_bl l)
theorem fK(ρ:Nat->Lk)(l:La):ROX ρ (.gro (roV l) [] 49) (.gro (roV l) [] 49):=k7 (aC l) (c1_ro l)
theorem Bj:HF nilS:=.scal rfl
theorem wh(Z:La):HF (outV Z):=.dat (aC Z)
theorem kg(D:List La)(k:Nat):∀ x∈outE D k,HF x:=λx a=>by rcases GW.1 a with h|h;obtain⟨Z,_,rfl⟩:=GA.1 h;exact wh Z;obtain⟨_,rfl⟩:=Im.1 h;exact Bj
theorem nu(D:List La)(k:Nat):∀ x∈outE D k,fM x:=λx a=>by rcases GW.1 a with h|h;obtain⟨Z,_,rfl⟩:=GA.1 h;rfl;obtain⟨_,rfl⟩:=Im.1 h;rfl
theorem qu(D:List La)(B m k:Nat):∀ x∈D.map outV++groS B m::List.replicate k nilS,fM x:=λx a=>by rcases GW.1 a with h|h;obtain⟨Z,_,rfl⟩:=GA.1 h;rfl;rcases GI.1 h with h|h;subst h;rfl;obtain⟨_,rfl⟩:=Im.1 h;rfl
theorem fy(D:List La)(k:Nat):(outE D k).length=D.length+k:=by simp[outE]
theorem mC(D:List La)(m k:Nat):(outM D m k).length=D.length+(k+1):=by simp[outM]
theorem yH(D:List La)(k:Nat)(x:Value):(outE D (k+1)).set D.length x=D.map outV++x::List.replicate k nilS:=by unfold outE;rw[IZ _ _ (by rw[GB];omega),GB,Ij,Ix,Jg]
theorem qP{ρ:Nat->Lk}{D:List La}{B B' m k:Nat}(h:ρ B'=some B):ROX ρ (.gro (D.map outV++groS B m::List.replicate k nilS) [] 23) (.gro (D.map outV++groS B' m::List.replicate k nilS) [] 23):=
 .row (by rw[GG];exact qu D B m k) (qu D B' m k) (by rw[GG];refine uF (RVs.hf λx a=>?_) (.cons (.slice h) (RVs.hf λx a=>?_));obtain⟨Z,_,rfl⟩:=GA.1 a;exact wh Z;obtain⟨_,rfl⟩:=Im.1 a;exact Bj)
def pj(Z:La)(z:Nat)(s:Int):La:=Z.set z (Z.getD z []++[s])
def zRow(rw:La)(c:Nat):Nat->La
 |0=>List.replicate rw.length []
 |s+1=>pj (zRow rw c s) ((rw.getD s []).getD c 0).toNat s
theorem dc(rw:La)(c:Nat):∀ s,(zRow rw c s).length=rw.length
 |0=>HA
 |s+1=>by show(List.set _ _ _).length=_;rw[GP];exact dc rw c s
theorem id4(l:Ld)(ρ:Nat->Lk):IdTo 4 (rhoX (mB++l) ρ):=λB a=>by
 have:B=0∨B=1∨B=2∨B=3:=by omega
 rcases this with rfl|rfl|rfl|rfl<;>rfl
def hBo(C F:Le)(ac:Li)(rw:La)(els:Lh):AH:=hB (liB C F ac rw++[(4,groO els)]) (λ_=>none) 8388544
def hBi(C F:Le)(ac:Li)(rw:La)(els:Lh)(Z:La):AH:=hB (liB C F ac rw++[(4,groO els),(5,groE (sls (memN Z)))]) (ae Z) 8388544
theorem fk(m:Ld)(nx:Nat):RQ m (λ_=>none) [] nx:=⟨λ_ _ h=>(by cases h),λ_ _ _ _ _ h=>(by cases h),λ_ _ _ _ h=>(by cases h)⟩
theorem turnB1{A0:AH}(d:A0.next=4){C F:Le}{ac:Li}{rw:La}(n:Nat):Turns env A0 nB (frB (outE [] n).length 0) (hBk C F ac rw (outE [] n)) (frB (outE [] n).length 0) (hBo C F ac rw (outE [] n)):=by obtain⟨b,a⟩:=A0;obtain rfl:a=4:=d;obtain⟨e,f,⟨rfl,rfl⟩,c⟩:=bg (E:=env) an (A0:=⟨b,4⟩) (n:=nB) (λG A=>G=frB (outE [] n).length 0/\A=hBo C F ac rw (outE [] n)) (frB (outE [] n).length 0) (hBk C F ac rw (outE [] n)) ((D5 _ C F ac rw (outE [] n) (λ_=>none)).mpr ⟨⟨ai _ _,ga _ _,fK _ _,k7 (kg _ _) (nu _ _),trivial⟩,ab _,id4 [] _,fk _ _,⟨cV,trivial⟩,by kernel_rfl,by kernel_rfl⟩);exact c
theorem turnB2{A0:AH}(s:A0.next=4){C F:Le}{ac:Li}{rw:La}{D:List La}{k:Nat}(u:rw.length<=100000):Turns env A0 nB (frBI (outM D rw.length k).length rw.length D.length 0) (hB (liB C F ac rw++[(4,groO (D.map outV++groS 8388544 rw.length::List.replicate k nilS)),(8388544,groE (List.replicate rw.length nilS))]) (λ_=>none) 8388545) (frBI (outM D rw.length k).length rw.length D.length 0) (hBi C F ac rw (outM D rw.length k) (zRow rw D.length 0)):=by
 obtain⟨j,d⟩:=A0;obtain rfl:d=4:=s;have b:(D.map outV++groS 8388544 rw.length::List.replicate k nilS).length=(outM D rw.length k).length:=by simp[outM]
 rw [<-b];have r:jBt2 (λG A=>G=frBI (D.map outV++groS 8388544 rw.length::List.replicate k nilS).length rw.length D.length 0/\A=hBi C F ac rw (outM D rw.length k) (zRow rw D.length 0)) C F ac rw (D.map outV++groS 8388544 rw.length::List.replicate k nilS) (outM D rw.length k) (List.replicate rw.length nilS) (sls (memN (zRow rw D.length 0))) (ae (zRow rw D.length 0)) D.length (λ_=>none) (λB=>∃ i,i<rw.length/\B=64*i+63):=by
  refine(D4 _ C F ac rw (D.map outV++groS 8388544 rw.length::List.replicate k nilS) (outM D rw.length k) (List.replicate rw.length nilS) (sls (memN (zRow rw D.length 0))) (ae (zRow rw D.length 0)) D.length (λ_=>none) (λB=>∃ i,i<rw.length/\B=64*i+63)).mpr ⟨⟨ai _ _,ga _ _,fK _ _,qP rfl,.row (by rw[GG];exact λx a=>by obtain⟨_,rfl⟩:=Im.1 a;rfl) (kZ _) ?_,trivial⟩,ab _,id4 _ _,fk _ _,?_,⟨?_,trivial⟩,by kernel_rfl,by kernel_rfl⟩;rw[GG];have:∀ (m:Nat) (l:Ld),l.length=m->(∀x∈l,x.2=0)->RVs (rhoX [(0,0),(1,1),(2,2),(3,3),(4,4),(5,8388544)] (λ_=>none)) (List.replicate m nilS) (sls l):=λm=>by
   induction m with
   |zero=>intro l c _;rw[Hb c];exact .nil
   |succ m o=>
   intro l c h;cases l with
   |nil=>cases c
   |cons x l=>have e:x.2=0:=h x GU;rw[Ix];refine .cons ?_ (o l (by simpa using c) λy p=>h y (GS _ p));unfold sl groS;rw[e];exact .nilG (by omega)
  refine this rw.length (memN (zRow rw D.length 0)) (by rw[aJ,dc]) λx a=>?_;obtain⟨i,g,rfl⟩:=IF.1 a;simp[memN,zRow];rintro B ⟨i,f,rfl⟩;refine⟨rfl,kI λx a e=>?_,by omega⟩;have:x.1=0∨x.1=1∨x.1=2∨x.1=3∨x.1=4∨x.1=5:=by simp only[GI,IU,Jl]at a;rcases a with rfl|rfl|rfl|rfl|rfl|rfl<;>simp
  omega;intro i t g;obtain⟨f,rfl⟩:=bv g;refine .inr (.inr ⟨⟨i,by rw[dc]at f;exact f,numM i⟩,?_⟩);have:(zRow rw D.length 0)[i]=[]:=by simp[zRow]
  rw[this];rfl
 obtain⟨v,w,⟨rfl,rfl⟩,q⟩:=yg (E:=env) an (A0:=⟨j,4⟩) (n:=nB) (λG A=>G=frBI (D.map outV++groS 8388544 rw.length::List.replicate k nilS).length rw.length D.length 0/\A=hBi C F ac rw (outM D rw.length k) (zRow rw D.length 0)) (frBI (D.map outV++groS 8388544 rw.length::List.replicate k nilS).length rw.length D.length 0) (hB (liB C F ac rw++[(4,groO (D.map outV++groS 8388544 rw.length::List.replicate k nilS)),(8388544,groE (List.replicate rw.length nilS))]) (λ_=>none) 8388545) r;exact q
end
end Go.T9
