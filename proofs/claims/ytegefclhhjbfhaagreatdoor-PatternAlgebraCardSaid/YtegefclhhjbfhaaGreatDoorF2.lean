/- A part of the proof. -/
import Derived.Test.YtegefclhhjbfhaaGreatDoorF
import Derived.Test.YtegefclhhjbfhaaGreatDoorC
import Derived.OpenShut
import Derived.MakeChecks
set_option linter.unusedVariables false
set_option linter.unusedSimpArgs false
set_option linter.unusedSectionVars false
namespace Go.AM
noncomputable section
variable {A A0:AH}{E:Env}{p q:Li}{B i n x:Nat}{g:Nat->Lk}{σ:Sig}{F:T Value}
def yC(F:T Value)(l:Lg):List (Nat×Value):=List.rec (motive:=λ_=>List (Nat×Value)) [] (λt _ ih=>match F.get t with|some v=>(t,v)::ih|none=>ih) l
theorem jY{F:T Value}:∀ {l:Lg}{t:Nat}{v:Value},(t,v)∈yC F l->F.get t=some v
 | [],t,v,h=>by cases h
 |x::l,t,v,h=>by have h:(t,v)∈(match F.get x with|some v=>(x,v)::yC F l|none=>yC F l):=h;split at h;rename_i u a;rcases GI.1 h with e|e;cases e;exact a;exact jY e;exact jY h
theorem Turns.pick{F1:T Value}(l:Lg)(h:ofL (yC F l) .leaf=some F1):Turns E A0 n F A F1 A:=by intro e j a w ⟨σ,c,R,f,X⟩;refine⟨σ,⟨c.size,λt v b=>?_,c.defers⟩,R,f,X⟩;have b:F1.get t=some v:=b;rcases dy h b with d|d;exact c.val t v (jY d);simp[T.get]at d
def rhoP(p:Li)(f:Nat->Lk)(B:Nat):Lk:=bif Nat.beq (T.numF p (T.unF p B)) B then f (T.unF p B)else none
theorem iu(p:Li)(f:Nat->Lk)(i:Nat):rhoP p f (T.numF p i)=f i:=by unfold rhoP;rw[T.unF_numF];simp[GL]
theorem cR{f:Nat->Lk}(h:rhoP p f B=some x):∃ i,B=T.numF p i/\f i=some x:=by unfold rhoP at h;cases a:Nat.beq (T.numF p (T.unF p B)) B;rw[a]at h;cases h;rw[a]at h;exact⟨_,(Gy a).symm,h⟩
theorem CY{f:Nat->Lk}(h:∀ i,B≠T.numF p i):rhoP p f B=none:=by
 cases a:rhoP p f B with
 |none=>rfl
 |some x=>obtain⟨i,b,_⟩:=cR a;exact absurd b (h i)
def rho2(p:Li)(f:Nat->Lk)(q:Li)(g:Nat->Lk)(B:Nat):Lk:=match rhoP p f B with
 |some x=>some x
 |none=>rhoP q g B
theorem nY{f:Nat->Lk}(h:rho2 p f q g B=some x):(∃i,B=T.numF p i/\f i=some x)∨(∃i,B=T.numF q i/\g i=some x):=by unfold rho2 at h;split at h;rename_i y a;cases h;exact .inl (cR a);exact .inr (cR h)
theorem qU{f:Nat->Lk}(h:f i=some x):rho2 p f q g (T.numF p i)=some x:=by unfold rho2;rw[iu,h]
theorem rho2_q{f:Nat->Lk}(a:∀ i j,T.numF p i≠T.numF q j):rho2 p f q g (T.numF q i)=g i:=by unfold rho2;rw[CY (λj e=>a j i e.symm),iu]
theorem VR.same{B' m:Nat}{v':Value}(c:∀ x,σ B=some x->σ B'=some x)(h:VR σ (.slice (some ⟨B,0,none⟩) n m) v'):VR σ (.slice (some ⟨B',0,none⟩) n m) v':=by
 cases h with
 |slice _ _ _ h k=>exact .slice _ _ _ (c _ h) k
 |sliceU _ h b=>exact .sliceU _ (c _ h) b
 |sliceV _ _ _ h b=>exact .sliceV _ _ _ (c _ h) b
 |sliceE=>exact .sliceE _ _ _
 |gs0 _ _ _ a d=>exact .gs0 _ _ _ a d
 |gs e o r f m h b l j d=>exact .gs e _ _ f _ (c _ h) b l j d
theorem Turns.focC{g:Nat->Option AObj}{B0 j k m:Nat}{els tl l r:Lh}{e0 e:TypeId}{t1 t2 P:T AObj}(S:T.getFn p A.t=some g)(I:g j=some (.gro l r e))(hj:T.numF p j<A.next)(hN:¬ T.InF p A.next)
 (M:A.t.get B0=some (.gro els tl e0)) (H:¬ T.InF p B0) (v:B0≠A.next) (U:∀ x∈els++tl,fM x) (s:(els++tl)[i]? =some (.slice (some ⟨T.numF p j,0,none⟩) k m))
 (V:T.setFn p A.t (λx=>bif Nat.beq x j then none else g x)=some t1) (h2:T.set FU t1 A.next (.gro l r e)=some t2) (O:T.set FU t2 B0 (.gro ((els++tl).set i (.slice (some ⟨A.next,0,none⟩) k m)) [] e0)=some P):Turns E A0 n F A F ⟨P,A.next+1⟩:=by
 intro Y w0 a w ⟨σ,hF,R,J,X⟩;have u:A.t.get (T.numF p j)=some (.gro l r e):=by rw[IQ S];exact I
 have G:∀ C,t2.get C=if C=A.next then some (.gro l r e)else if C=T.numF p j then none else A.t.get C:=λC=>by
  rw[Hp h2];by_cases f:C=A.next
  rw[Gw f,Gw f];rw[D' f,D' f];by_cases s:T.InF p C;obtain⟨x,rfl⟩:=s;rw[Jk V,IQ S];by_cases z:x=j;have:Nat.beq x j=true:=by rw[z];simp[GL]
  rw[this,Gw (by rw[z])];rfl;have:Nat.beq x j=false:=by cases O:Nat.beq x j;rfl;exact absurd (Gy O) z
  rw[this,D' (λd=>z (T.numF_inj p d))];rfl;rw[Ja V C s,D' (λd=>s ⟨j,d⟩)]
 have hk:σ A.next=none:=R.fresh _ (GK _)
 have c:=ma (N:=T.numF p j) hk;have R1:=Rel.focus R u hj G
 have X1:=Ext.focus (σ:=σ) (w:=w) u G
 have L:t2.get B0=some (.gro els tl e0):=by rw[G,D' v,D' (λd=>H ⟨j,d⟩)];exact M
 have K:T.numF p j≠A.next:=λd=>hN ⟨j,d.symm⟩
 obtain⟨R2,X2⟩:=jT R1 L U (λx Z=>by
  rcases H6 Z with h|h;exact U x h;rw[h];exact fZ _ _ _) (by rw[GP]) (λq x x2 D b v' o=>by
  rw[Hq]at b;split at b;rename_i f;subst f;split at b;simp only[osI]at b;rw[s]at D;cases D;rw[<-b];exact VR.same (λy Q=>by rw[eN];rw[ci K]at Q;exact Q) o;cases b;rw[D]at b;cases b;exact o) O
 exact⟨_,hF.mono c,R2,J.sub c,X.trans (X1.trans X2)⟩
theorem uO{P:Program}{w:World}(R:Rel P σ A w){c:Nat}{es es2:Lc}{t:T AObj}(e:A.t.get B=some (.map es c))(d:∀ {l},ERs σ es l->ERs σ es2 l)(b:T.set FU A.t B (.map es2 c)=some t):Rel P σ ⟨t,A.next⟩ w/\Ext σ A w σ ⟨t,A.next⟩ w:=
 Rel.retell (o2:=.map es2 c) R e b rfl rfl rfl (λo k m h=>by obtain⟨a,j,f⟩:=h;exact⟨a,j,d f⟩)
inductive FE (N k:Nat):Lc->Lc->Prop
 |nil:FE N k [] []
 |old {x:Value×Value×Nat}{l l2:Lc}(t:FE N k l l2):FE N k (x::l) (x::l2)
 |new {key:Value}{n m b:Nat}{l l2:Lc}(t:FE N k l l2):FE N k ((key,.slice (some ⟨N,0,none⟩) n m,b)::l) ((key,.slice (some ⟨k,0,none⟩) n m,b)::l2)
theorem FE.ers{N k:Nat}(a:∀ x,σ N=some x->σ k=some x):∀ {es es2:Lc}{l:List MapEntry},FE N k es es2->ERs σ es l->ERs σ es2 l
 |_,_,_,.nil,h=>h
 |_,_,_,.old t,.cons he ht=>.cons he (t.ers a ht)
 |_,_,_,.new t,.cons he ht=>.cons ⟨he.1,VR.same a he.2.1,he.2.2⟩ (t.ers a ht)
theorem Turns.focM{g:Nat->Option AObj}{B0 j c:Nat}{es es2:Lc}{l r:Lh}{e:TypeId}{t1 t2 J:T AObj}(L:T.getFn p A.t=some g)(v:g j=some (.gro l r e))(S:T.numF p j<A.next)(U:¬ T.InF p A.next)
 (H:A.t.get B0=some (.map es c)) (s:¬ T.InF p B0) (h:B0≠A.next) (Y:FE (T.numF p j) A.next es es2)
 (M:T.setFn p A.t (λx=>bif Nat.beq x j then none else g x)=some t1) (Z:T.set FU t1 A.next (.gro l r e)=some t2) (I:T.set FU t2 B0 (.map es2 c)=some J):Turns E A0 n F A F ⟨J,A.next+1⟩:=by
 intro O w0 a w ⟨σ,V,R,z,X⟩;have f:A.t.get (T.numF p j)=some (.gro l r e):=by rw[IQ L];exact v
 have o:∀ C,t2.get C=if C=A.next then some (.gro l r e)else if C=T.numF p j then none else A.t.get C:=λC=>by
  rw[Hp Z];by_cases m:C=A.next
  rw[Gw m,Gw m];rw[D' m,D' m];by_cases u:T.InF p C;obtain⟨x,rfl⟩:=u;rw[Jk M,IQ L];by_cases k:x=j;have:Nat.beq x j=true:=by rw[k];simp[GL]
  rw[this,Gw (by rw[k])];rfl;have:Nat.beq x j=false:=by cases I:Nat.beq x j;rfl;exact absurd (Gy I) k
  rw[this,D' (λd=>k (T.numF_inj p d))];rfl;rw[Ja M C u,D' (λd=>u ⟨j,d⟩)]
 have Q:σ A.next=none:=R.fresh _ (GK _)
 have b:=ma (N:=T.numF p j) Q;have R1:=Rel.focus R f S o
 have X1:=Ext.focus (σ:=σ) (w:=w) f o
 have G:t2.get B0=some (.map es c):=by rw[o,D' h,D' (λd=>s ⟨j,d⟩)];exact H
 have D:T.numF p j≠A.next:=λd=>U ⟨j,d.symm⟩
 obtain⟨R2,X2⟩:=uO R1 G (λP=>Y.ers (λy K=>by rw[eN];rw[ci D]at K;exact K) P) I;exact⟨_,V.mono b,R2,z.sub b,X.trans (X1.trans X2)⟩
end
end Go.AM
namespace Go.MK
open Go Go.AM
noncomputable section
abbrev _root_.Go.JC:=@List.eraseIdx_cons_succ
abbrev _root_.Go.HJ:=@List.nodup_cons
abbrev _root_.Go.JD:=@List.getElem?_cons_zero
abbrev _root_.Go.Jg:=@List.set_cons_zero
abbrev _root_.Go.GX:=@List.map_append
abbrev _root_.Go.Iw:=@List.nodup_append
abbrev _root_.Go.Iu:=@List.map_set
variable {K V:Type}[DecidableEq K]
def bidx:List (K×V×Nat)->K->Nat->Option (Nat×V×Nat)
 | [],_,_=>none
 |x::m,k,i=>if x.1=k then some (i,x.2)else bidx m k (i+1)
variable {E:Env}{k:K}{kv:K->Value}{et kt t:TypeId}{z:Value}
def bget(m:List (K×V×Nat))(k:K):Option V:=(bidx m k 0).map λx=>x.2.1
def bset(m:List (K×V×Nat))(c:Nat)(k:K)(v:V):List (K×V×Nat)×Nat:=match bidx m k 0 with
 |none=>(m++[(k,v,c)],c+1)
 |some (j,u)=>(m.set j (k,v,u.2),c)
def bdel(m:List (K×V×Nat))(k:K):List (K×V×Nat):=match bidx m k 0 with
 |none=>m
 |some (j,_)=>m.eraseIdx j
def eg(kv:K->Value)(vv:V->Value)(m:List (K×V×Nat)):Lc:=m.map λx=>(kv x.1,vv x.2.1,x.2.2)
theorem AQ{a b :Type}(f: a -> b):∀ (l:List a) (i:Nat),(l.eraseIdx i).map f=(l.map f).eraseIdx i
 | [],i=>rfl
 |x::l,0=>rfl
 |x::l,i+1=>by rw[JC,Hj,Hj,JC,AQ f l i]
theorem ib{m:List (K×V×Nat)}:∀ {i j:Nat}{u:V×Nat},bidx m k i=some (j,u)->∃ q,j=i+q/\m[q]? =some (k,u):=by
 induction m with
 |nil=>intro i j u h;cases h
 |cons x m a=>intro i j u h;unfold bidx at h;split at h;rename_i b;cases h;exact⟨0,rfl,by simp[<-b]⟩;obtain⟨q,d,c⟩:=a h;exact⟨q+1,by omega,by simpa using c⟩
theorem uc(m:List (K×V×Nat))(k:K):∀ i,bidx m k i=(bidx m k 0).map λx=>(i+x.1,x.2):=by
 induction m with
 |nil=>intro i;rfl
 |cons x m a=>intro i;unfold bidx;split;rfl;rw[a (i+1),a (0+1),Option.map_map];congr 1;funext y;simp;omega
theorem bU(x:K×V×Nat)(m:List (K×V×Nat))(k:K):bget (x::m) k=if x.1=k then some x.2.1 else bget m k:=by unfold bget;show(Option.map _ (if x.1=k then some (0,x.2)else bidx m k (0+1)))=_;split;rfl;rw[uc m k,Option.map_map];rfl
theorem bget_none{m:List (K×V×Nat)}:bget m k=none↔¬ k∈m.map (·.1):=by
 induction m with
 |nil=>simp[bget,bidx]
 |cons x m a=>rw[bU,Hj,GI];by_cases h:x.1=k;simp[h];have:¬ k=x.1:=λe=>h e.symm;simp[h,this,a]
theorem z7(m:List (K×V×Nat))(x:K×V×Nat)(k:K):bget (m++[x]) k=match bget m k with|some v=>some v|none=>if x.1=k then some x.2.1 else none:=by
 induction m with
 |nil=>rw[List.nil_append,bU];rfl
 |cons y m a=>rw[IS,bU,bU,a];split;rfl;rfl
theorem z0{m:List (K×V×Nat)}{c:Nat}{a:K}{v:V}(d:(m.map (·.1)).Nodup):bget (bset m c k v).1 a=if k=a then some v else bget m a:=by
 unfold bset;cases f:bidx m k 0 with
 | none=>
  have l:bget m k=none:=by unfold bget;rw[f];rfl
  show bget (m++[(k,v,c)]) a=_;rw[z7];by_cases e:k=a;subst e;simp[l];cases bget m a<;>simp[e]
 |some x=>
 obtain⟨j,u⟩:=x;obtain⟨q,h,b⟩:=ib f;have i:j=q:=by omega
 subst i;show bget (m.set j (k,v,u.2)) a=_;clear f h;induction m generalizing j with
 |nil=>simp at b
 |cons y m g=>
 rw[Hj,HJ]at d;cases j with
 |zero=>simp only[JD,osI]at b;rw[Jg,bU,bU,b];by_cases e:k=a<;>simp[e]
 |succ j=>simp only[Ic]at b;rw[List.set_cons_succ,bU,bU,g d.2 j b];by_cases e:k=a;have:¬ y.1=a:=λn=>d.1 (GA.2 ⟨_,GM b,by rw[n];exact e⟩);simp[e,this];simp[e]
theorem xB{m:List (K×V×Nat)}{c:Nat}{v:V}(f:(m.map (·.1)).Nodup):((bset m c k v).1.map (·.1)).Nodup:=by
 unfold bset;cases d:bidx m k 0 with
 | none=>
  have h:bget m k=none:=by unfold bget;rw[d];rfl
  have:=bget_none.1 h;show((m++[(k,v,c)]).map (·.1)).Nodup;rw[GX];exact Iw.2 ⟨f,by simp,λa o b d=>by
   have:b=k:=by simpa using d
   rw[this];exact λe=>(bget_none.1 h) (e▸o)⟩
 |some x=>
 obtain⟨j,u⟩:=x;obtain⟨q,p,g⟩:=ib d;have n:j=q:=by omega
 subst n;show((m.set j (k,v,u.2)).map (·.1)).Nodup;rw[Iu];have l:=(GE.1 g).1;have:(m.map (·.1)).set j k=m.map (·.1):=by refine II λi=>?_;rw[Hq];split;rename_i e;subst e;rw[GR,g,GB,Gw l];rfl;rfl
 rw[this];exact f
theorem z8{m:List (K×V×Nat)}{a:K}(c:(m.map (·.1)).Nodup):bget (bdel m k) a=if k=a then none else bget m a:=by
 unfold bdel;cases d:bidx m k 0 with
 | none=>
  have l:bget m k=none:=by unfold bget;rw[d];rfl
  show bget m a=_;by_cases e:k=a;subst e;simp[l];simp[e]
 |some x=>
 obtain⟨j,u⟩:=x;obtain⟨q,h,b⟩:=ib d;have i:j=q:=by omega
 subst i;show bget (m.eraseIdx j) a=_;clear d h;induction m generalizing j with
 |nil=>simp at b
 |cons y m g=>
 rw[Hj,HJ]at c;cases j with
 |zero=>simp only[JD,osI]at b;rw[List.eraseIdx_cons_zero,bU,b];by_cases e:k=a;have f:=c.1;rw[b]at f;have:=(bget_none (m:=m) (k:=k)).2 f;rw[<-e,this];simp;simp[e]
 |succ j=>simp only[Ic]at b;rw[JC,bU,bU,g c.2 j b];by_cases e:k=a;have:¬ y.1=a:=λn=>c.1 (GA.2 ⟨_,GM b,by rw[n];exact e⟩);simp[e,this];simp[e]
theorem xH{m:List (K×V×Nat)}(a:(m.map (·.1)).Nodup):((bdel m k).map (·.1)).Nodup:=by
 unfold bdel;cases bidx m k 0 with
 |none=>exact a
 |some x=>exact a.sublist ((List.eraseIdx_sublist _ _).map _)
theorem ko{kind:TypeDesc}{kv:K->Value}{c:V->Value}(h:∀ a b,jR kind (kv a) (kv b)=some (decide (a=b)))(k:K):∀ (m:List (K×V×Nat)) (i:Nat),
 eH kind (kv k) (eg kv c m) i=some ((bidx m k i).map λx=>(x.1,c x.2.1))
 | [],i=>rfl
 |x::m,i=>by show eH kind (kv k) ((kv x.1,c x.2.1,x.2.2)::eg kv c m) i=_;simp only[eH,h];by_cases e:x.1=k;simp[bidx,e];have d:¬ k=x.1:=λh=>e h.symm;simp only[d,It,bidx,D' e];exact ko h k m _
theorem gU{E:Env}{kt:TypeId}{kv:K->Value}{c:V->Value}(h:∀ a b,oP E kt (kv a) (kv b)=some (decide (a=b)))(k:K):∀ (m:List (K×V×Nat)) (i:Nat),
 c7 E kt (kv k) (eg kv c m) i=some ((bidx m k i).map λx=>(x.1,c x.2.1))
 | [],i=>rfl
 |x::m,i=>by show c7 E kt (kv k) ((kv x.1,c x.2.1,x.2.2)::eg kv c m) i=_;simp only[c7,h];by_cases e:x.1=k;simp[bidx,e];have d:¬ k=x.1:=λh=>e h.symm;simp only[d,It,bidx,D' e];exact gU h k m _
theorem go(h:KeyOk E t kt et kv z)(b:V->Value)(k:K)(m:List (K×V×Nat)):
 iK E kt (kv k) (eg kv b m)=some ((bidx m k 0).map λx=>(x.1,b x.2.1)):=by
 obtain⟨a,d,e⟩:=h.eq;unfold iK;rw[d];simp only;rcases e with c|⟨c,f⟩;rw[ko c];cases m with
 |nil=>rfl
 |cons x m=>
 have:eH a (kv k) (eg kv b (x::m)) 0=none:=by show eH a (kv k) ((kv x.1,b x.2.1,x.2.2)::eg kv b m) 0=_;simp only[eH,c]
 rw[this];exact gU f k (x::m) 0
theorem iA(h:KeyOk E t kt et kv z)(a:V->Value)(k:K)(m:List (K×V×Nat)):
 cx E t (eg kv a m) (kv k)=some (match bget m k with|some v=>(a v,true)|none=>(z,false)):=by
 obtain⟨i,d,c,b⟩:=h.zero;unfold cx bget;rw[h.und];simp only[h.flat,h.ok,HU,C',go h a k m];cases bidx m k 0 with
 |none=>simp only[Ju,d,c,b,C']
 |some x=>rfl
theorem jB(h:KeyOk E t kt et kv z)(a:V->Value)(k:K)(v:V)(m:List (K×V×Nat))(c:Nat):
 aU E t (eg kv a m) c (kv k) (a v)=some (eg kv a (bset m c k v).1,(bset m c k v).2):=by
 unfold aU bset;rw[h.und];simp only[h.flat,h.ok,HU,C',go h a k m];cases f:bidx m k 0 with
 |none=>simp only[Ju];unfold eg;rw[GX];rfl
 |some x=>
 obtain⟨j,u⟩:=x;obtain⟨q,g,e⟩:=ib f;have b:j=q:=by omega
 subst b;have d:nth (eg kv a m) j=some (kv k,a u.1,u.2):=by rw[aN];unfold eg;rw[GR,e];rfl
 simp only[Hx,d,h.bits,C'];unfold eg;rw[Iu]
theorem xd(h:KeyOk E t kt et kv z)(a:V->Value)(k:K)(m:List (K×V×Nat)):
 delE E t (eg kv a m) (kv k)=some (eg kv a (bdel m k)):=by
 unfold delE bdel;rw[h.und];simp only[h.flat,h.ok,C',go h a k m];cases b:bidx m k 0 with
 |none=>rfl
 |some x=>obtain⟨j,u⟩:=x;simp only[Hx];unfold eg;rw[AQ]
end
end Go.MK
namespace Go.AM
noncomputable section
variable {A A' A0:AH}{b c:Code}{E E1:Env}{slots:Lg}{args:Lh}{p:Lh->Lj}{k n:Nat}{Q:Post}{F F':T Value}{v:Value}{w:World}
def bJ(X' X:SX)(d n:Nat)(A0:AH)(c:Code)(p:Lg)(K:KX)(again:KF)(F:T Value)(A:AH):Prop:=sx X' d A0 n (aE (subC p c)) F A (stepR X d n A0 c p K again)
def ph(E:Env)(A0:AH)(n:Nat)(tl:KF->KF):Prop:=∀ K F A,tl K F A->∃ F1 A1,K F1 A1/\Turns E A0 n F A F1 A1
theorem LAtZ.stepT{X:SX}{d:Nat}{p:Lg}{K:KX}(o:iX (subC p c)=true)(I:Nat->T Value->AH->Prop)
 (a:∀ k F A,I k F A->∃ (f:SX) (tl:KF->KF),f.Ok/\f.E=X.E/\ph X.E A0 n tl/\bJ f X d n A0 c p K (tl λF1 A1=>∃ e,e<k/\∃ g i,I e g i/\Turns X.E A0 n F1 A1 g i) F A) {F1:T Value}{A1:AH}(h:I k F1 A1) (l:Turns X.E A0 n F A F1 A1):LAtZ X d n A0 c p K F A:=by
 refine .mk ?_;rw[j7 o];refine W.loopT I (λk F A t=>?_) h l;obtain⟨f,tl,r,u,s,m⟩:=a k F A t;have j:=jI r m;rw[u]at j;refine j.mono λC F' A' q=>?_;cases C with
 |normal=>obtain⟨F1,A1,⟨e,B,g,i,z,y⟩,x⟩:=s _ _ _ q;exact⟨e,g,i,B,z,x.trans y⟩
 |exit id=>exact q
 |ret=>exact q
theorem x7{p:Prop}:∀ {l:Lh},(∀x∈l,HF x)->p->HFs l p
 | [],_,hp=>hp
 |v::l,h,hp=>⟨h v GU,x7 (λx a=>h x (GS _ a)) hp⟩
def IdTo(k:Nat)(ρ:Nat->Lk):Prop:=∀ B,B<k->ρ B=some B
abbrev FamL:=List (Li×(Nat->Option AObj))
def zE(t:T AObj)(l:List Li):Option FamL:=List.rec (motive:=λ_=>Option FamL) (some []) (λp _ ih=>match T.getFn p t with
 |some g=>(match ih with|some r=>some ((p,g)::r)|none=>none)
 |none=>none) l
def tN(t:T AObj)(l:Ld):Option (List (Nat×Nat×AObj)):=List.rec (motive:=λ_=>Option (List (Nat×Nat×AObj))) (some []) (λx _ ih=>match t.get x.2 with
 |some o=>(match ih with|some r=>some ((x.1,x.2,o)::r)|none=>none)
 |none=>none) l
def FQ(ρ:Nat->Lk)(gs:FamL)(p:Li)(g:Nat->Option AObj)(l:List (Nat×Nat×AObj)):Prop:=∀ i o1,g i=some o1->(∃x,x∈l/\x.1=i/\ρ (T.numF p i)=some x.2.1/\ROX ρ x.2.2 o1)∨∃ x j o,x∈gs/\ρ (T.numF p i)=some (T.numF x.1 j)/\x.2 j=some o/\ROX ρ o o1
abbrev FamS:=List (Li×(Nat->Option AObj)×Ld)
def Fg(ρ:Nat->Lk)(gs:FamL)(t:T AObj)(l:FamS):Ll:=List.rec (motive:=λ_=>Ll) (some True) (λx _ ih=>match tN t x.2.2 with
 |some os=>(match ih with|some q=>some (FQ ρ gs x.1 x.2.1 os/\q)|none=>none)
 |none=>none) l
theorem m8{t:T AObj}:∀ {l:List Li}{r:FamL},zE t l=some r->∀ x∈r,T.getFn x.1 t=some x.2
 | [],r,h,x,hx=>by have h:some ([]:FamL)=some r:=h;cases h;cases hx
 | p::l,r,h,x,hx=>by
  have h:(match T.getFn p t with
   |some g=>(match zE t l with|some r=>some ((p,g)::r)|none=>none)
   |none=>none)=some r:=h
  split at h;rename_i g a;split at h;rename_i f d;cases h;rcases GI.1 hx with e|e;rw[e];exact a;exact m8 d x e;cases h;cases h
theorem m7{t:T AObj}:∀ {l:Ld}{r:List (Nat×Nat×AObj)},tN t l=some r->∀ x∈r,t.get x.2.1=some x.2.2
 | [],r,h,x,hx=>by have h:some ([]:List (Nat×Nat×AObj))=some r:=h;cases h;cases hx
 | p::l,r,h,x,hx=>by
  have h:(match t.get p.2 with
   |some o=>(match tN t l with|some r=>some ((p.1,p.2,o)::r)|none=>none)
   |none=>none)=some r:=h
  split at h;rename_i g a;split at h;rename_i f d;cases h;rcases GI.1 hx with e|e;rw[e];exact a;exact m7 d x e;cases h;cases h
theorem sa{ρ:Nat->Lk}{a:FamL}{A:AH}(r:∀ x∈a,T.getFn x.1 A.t=some x.2):∀ {l:FamS}{q:Prop},Fg ρ a A.t l=some q->q->sb ρ (λ_=>False) A (l.map λx=>(x.1,x.2.1))
 | [],q,h,hq=>trivial
 | x::l,q,h,hq=>by
  have h:(match tN A.t x.2.2 with
   |some m=>(match Fg ρ a A.t l with|some q=>some (FQ ρ a x.1 x.2.1 m/\q)|none=>none)
   |none=>none)=some q:=h
  split at h;rename_i m e;split at h;rename_i C B;cases h;refine⟨λi s u=>.inl ?_,sa r B hq.2⟩;rcases hq.1 i s u with⟨y,d,rfl,g,f⟩|⟨y,j,o,d,z,g,f⟩;exact⟨_,_,g,m7 e y d,f⟩;refine⟨_,o,z,?_,f⟩;rw[IQ (r y d)];exact g;cases h;cases h
def inLb(B:Nat):Lg->Bool
 | []=>false
 |x::l=>bif Nat.beq B x then true else inLb B l
def j4(t:T AObj):Lg->Bool
 | []=>true
 |x::l=>(match t.get x with|some o=> !o.here|none=>true)&&j4 t l
theorem j0{t:T AObj}{B:Nat}{o:AObj}(d:t.get B=some o)(a:o.here=true):∀ {l:Lg},j4 t l=true->inLb B l=false
 | [],_=>rfl
 |x::l,h=>by have h:((match t.get x with|some o=> !o.here|none=>true)&&j4 t l)=true:=h;simp only[f']at h;show(bif Nat.beq B x then true else inLb B l)=false;cases e:Nat.beq B x;exact j0 d a h.2;have e:=Gy e;subst e;have f:=h.1;rw[d]at f;simp[a]at f
structure RQ (m:Ld) (ρf:Nat->Lk) (dl:Lg) (nx:Nat):Prop where
 lt:∀ B' B,ρf B'=some B->B'<nx
 inj:∀ B1 B2 B,inLb B1 dl=false->inLb B2 dl=false->ρf B1=some B->ρf B2=some B->B1=B2
 sep:∀ x∈m,∀B',inLb B' dl=false->ρf B'≠some x.2
def cg (k : Nat)(dl:Lg)(ov:List (Nat×AObj))(m:Ld)(slots:Lg)(nx:Nat)(fm:FamS)(ρf:Nat->Lk)(K:KF):KF:=λF A=>
 match sV m F slots with
 | some r => (match kV [] ov (rhoX m ρf) m A m with
   | some s =>(match ofL r.2 .leaf with
     | some F1=>(match ofL s.2.2 .leaf with
       | some t0=>(match iR (fm.map λx=>(x.1,x.2.1)) t0 with
         | some t1=>(match zE A.t (fm.map λx=>x.1)with
           | some gs=>(match Fg (rhoX m ρf) gs A.t fm with
             |some q=>bif ((bq nx m&&baks m)&&Nat.ble k nx)&&j4 t1 dl then pc (some s.2.1) (HFs (r.1++s.1) (IdTo k (rhoX m ρf)/\RQ m ρf dl nx/\pc (some q) (K F1 ⟨t1,nx⟩)))else False
             |none=>False)
           |none=>False)
         |none=>False)
       |none=>False)
     |none=>False)
   |none=>False)
 |none=>False
theorem bg(t:GlOk E){dl:Lg}{ov:List (Nat×AObj)}{m:Ld}{nx:Nat}{fm:FamS}{ρf:Nat->Lk}:ph E A0 n (cg A0.next dl ov m slots nx fm ρf):=λK F A h=>by
 refine qC (ws:=[]) (ov:=ov) (m:=m) (slots:=slots) (nx:=nx) (fm:=fm.map λx=>(x.1,x.2.1)) (ρf:=ρf) (NL:=λ_=>False) t ?_;unfold cg at h;unfold yf;split at h;rename_i r D;rw[D];split at h;rename_i s C;simp only[C];split at h;rename_i Y M;simp only[M];split at h;rename_i V g;simp only[g];split at h;rename_i y f;simp only[f];split at h;rename_i X j;split at h;rename_i q G;cases e:((bq nx m&&baks m)&&Nat.ble A0.next nx)&&j4 y dl;rw[e]at h;exact h.elim;rw[e]at h;simp only[f']at e;have u:((bq nx m&&baks m)&&Nat.ble A0.next nx)=true:=by simp only[f'];exact e.1
 rw[u];obtain⟨H,h⟩:=h;obtain⟨J,i,a,L,I⟩:=gz h;have d:∀ B,(∃o,y.get B=some o/\o.here=true)->inLb B dl=false:=λB ⟨o,P,O⟩=>j0 P O e.2;exact x7 J ⟨i,⟨λB N=>N.elim,a.lt,λS R B l1 l2=>a.inj S R B (d _ l1) (d _ l2),λx z U l=>a.sep x z U (d _ l)⟩,H,sa (m8 j) G L,I⟩;exact h.elim;exact h.elim;exact h.elim;exact h.elim;exact h.elim;exact h.elim;exact h.elim
def jE(E:Env)(A0:AH)(n:Nat)(K:KF):KF:=λF A=>∃ F1 A1,K F1 A1/\Turns E A0 n F A F1 A1
theorem cI:ph E A0 n (jE E A0 n):=λK F A h=>h
def NLOk(m:Ld)(ρf:Nat->Lk)(NL:Nat->Prop)(nx:Nat):Prop:=∀ B,NL B->ρf B=none/\back m B=none/\B<nx
def FQN(ρ:Nat->Lk)(NL:Nat->Prop)(gs:FamL)(p:Li)(g:Nat->Option AObj)(l:List (Nat×Nat×AObj)):Prop:=∀ i o1,g i=some o1->(∃x,x∈l/\x.1=i/\ρ (T.numF p i)=some x.2.1/\ROX ρ x.2.2 o1)∨(∃x j o,x∈gs/\ρ (T.numF p i)=some (T.numF x.1 j)/\x.2 j=some o/\ROX ρ o o1)∨(NL (T.numF p i)/\o1.nilOk=true)
def Fh(ρ:Nat->Lk)(NL:Nat->Prop)(gs:FamL)(t:T AObj)(l:FamS):Ll:=List.rec (motive:=λ_=>Ll) (some True) (λx _ ih=>match tN t x.2.2 with
 |some os=>(match ih with|some q=>some (FQN ρ NL gs x.1 x.2.1 os/\q)|none=>none)
 |none=>none) l
theorem sd{ρ:Nat->Lk}{NL:Nat->Prop}{a:FamL}{A:AH}(r:∀ x∈a,T.getFn x.1 A.t=some x.2):∀ {l:FamS}{q:Prop},Fh ρ NL a A.t l=some q->q->sb ρ NL A (l.map λx=>(x.1,x.2.1))
 | [],q,h,hq=>trivial
 | x::l,q,h,hq=>by
  have h:(match tN A.t x.2.2 with
   |some m=>(match Fh ρ NL a A.t l with|some q=>some (FQN ρ NL a x.1 x.2.1 m/\q)|none=>none)
   |none=>none)=some q:=h
  split at h;rename_i m e;split at h;rename_i D C;cases h;refine⟨λi s u=>?_,sd r C hq.2⟩;rcases hq.1 i s u with⟨y,d,rfl,g,f⟩|⟨y,j,o,d,B,g,f⟩|z;exact .inl ⟨_,_,g,m7 e y d,f⟩;refine .inl ⟨_,o,B,?_,f⟩;rw[IQ (r y d)];exact g;exact .inr z;cases h;cases h
def Ca (k : Nat)(dl:Lg)(ov:List (Nat×AObj))(m:Ld)(slots:Lg)(nx:Nat)(fm:FamS)(ρf:Nat->Lk)(NL:Nat->Prop)(K:KF):KF:=λF A=>
 match sV m F slots with
 | some r => (match kV [] ov (rhoX m ρf) m A m with
   | some s =>(match ofL r.2 .leaf with
     | some F1=>(match ofL s.2.2 .leaf with
       | some t0=>(match iR (fm.map λx=>(x.1,x.2.1)) t0 with
         | some t1=>(match zE A.t (fm.map λx=>x.1)with
           | some gs=>(match Fh (rhoX m ρf) NL gs A.t fm with
             |some q=>bif ((bq nx m&&baks m)&&Nat.ble k nx)&&j4 t1 dl then pc (some s.2.1) (HFs (r.1++s.1) (IdTo k (rhoX m ρf)/\RQ m ρf dl nx/\NLOk m ρf NL nx/\pc (some q) (K F1 ⟨t1,nx⟩)))else False
             |none=>False)
           |none=>False)
         |none=>False)
       |none=>False)
     |none=>False)
   |none=>False)
 |none=>False
theorem yg(u:GlOk E){dl:Lg}{ov:List (Nat×AObj)}{m:Ld}{nx:Nat}{fm:FamS}{ρf:Nat->Lk}{NL:Nat->Prop}:ph E A0 n (Ca A0.next dl ov m slots nx fm ρf NL):=λK F A h=>by
 refine qC (ws:=[]) (ov:=ov) (m:=m) (slots:=slots) (nx:=nx) (fm:=fm.map λx=>(x.1,x.2.1)) (ρf:=ρf) (NL:=NL) u ?_;unfold Ca at h;unfold yf;split at h;rename_i r G;rw[G];split at h;rename_i s D;simp only[D];split at h;rename_i Y N;simp only[N];split at h;rename_i V g;simp only[g];split at h;rename_i z f;simp only[f];split at h;rename_i X t;split at h;rename_i q H;cases e:((bq nx m&&baks m)&&Nat.ble A0.next nx)&&j4 z dl;rw[e]at h;exact h.elim;rw[e]at h;simp only[f']at e;have y:((bq nx m&&baks m)&&Nat.ble A0.next nx)=true:=by simp only[f'];exact e.1
 rw[y];obtain⟨I,h⟩:=h;obtain⟨L,j,a,i,M,J⟩:=gz h;have d:∀ B,(∃o,z.get B=some o/\o.here=true)->inLb B dl=false:=λB ⟨o,P,O⟩=>j0 P O e.2;exact x7 L ⟨j,⟨i,a.lt,λS R B l1 l2=>a.inj S R B (d _ l1) (d _ l2),λx C U l=>a.sep x C U (d _ l)⟩,I,sd (m8 t) H M,J⟩;exact h.elim;exact h.elim;exact h.elim;exact h.elim;exact h.elim;exact h.elim;exact h.elim
theorem lH(t:E1.Ok)(H:E1.sym=false)(z:ug E1)(D:E1.P=E.P)(r:∀ σ,Glob E σ->Glob E1 σ){f:FuncId}
 (h:∀ args v,p args=some v->args.all flat=true/\flat v=true/\∃ k A',iN E1 (evN E1 k) f args ⟨.leaf,0⟩=some (v,A')):Con E f (dw p):=by
 intro args A v A' m σ w j R J M;unfold dw at m;split at m;rename_i u I;simp only[osI,GC]at m;obtain⟨rfl,rfl⟩:=m;obtain⟨q,y,k,X,C⟩:=h args u I;have i:j=args:=ng q M;rw[i];rw[si H]at C;have V:Rel E1.P σ A w:=D▸R;have a:=qq t z (nk t z k).1 f args _ u X C (sigR σ) w args (relR V) (λg U e=>r σ J g U e) (iJ q);rw[D]at a;refine a.mono λe s K=>?_;obtain⟨Y,G,rfl,O,Z,l⟩:=K;have S:=cZ y O;subst S;have d:∀ b,b<w.heap.size->s.heap[b]? =w.heap[b]?:=λb L=>l.frame b L λB o x N=>by simp[T.get]at N
 exact⟨_,sigB σ w s,rfl,bI y _,relB R d l.size,extB R d l.size l.os l.tape l.output⟩;cases m
theorem rz{P:Program}{w:World}:∀ {laid:List (String×DataW Unit)}{i:List MemPlace},DataW.LaidVars P w laid i->∀ {n:String}{d:DataW Unit},(n,d)∈laid->
 ∃g t cs a p,P.globalNamed n=some g/\(P.globals[g]?).map (·.type)=some t/\w.var? P n=some cs/\DataW.trod (λ_=>()) P w 0 (λ_=>true) false a t cs.toList=some (d,p)
 | [],_,_,n,d,f=>by simp at f
 |(n0,d0)::r,i,h,n,d,f=>by obtain⟨g,t,cs,a,p,q,s,o,m,l,j,_⟩:=h;rcases GI.1 f with e|f;cases e;exact⟨g,t,cs,a,p,s,o,m,l⟩;exact rz j f
theorem vQ{P:Program}{f:Nat}{t e:TypeId}{k:IntKind}{cs:Lh}{ls:Le}{p:List MemPlace}(C:P.underlying t=some (.array n e))(D:P.underlying e=some (.int k))(G:P.cellsOf e=1)(H:n=ls.length)
 (h:DataW.trod (λ_=>()) P w 0 (λ_=>true) false f t cs=some (.agg (ls.map λx=>.lit (.int k x)),p)):cs.take ls.length=ls.map (Value.int k):=by
 obtain⟨j,m,_,g,s,B,d⟩:=DataW.trod_array C h;simp only[GC,DataW.agg.injEq]at g;obtain⟨g,_⟩:=g;have l:∀ i,i<ls.length->cs[i]? =some (.int k (ls[i]?.getD 0)):=λi a=>by
  have y:=d i (by omega);rw[E' (by omega:i<j.length)]at y;obtain⟨z,r,o,_⟩:=DataW.trod_int D y;have q:(j.map (·.1))[i]? =some (.lit (.int k z)):=by rw[GR,E' (by omega:i<j.length),o];rfl
  rw[<-g,GR,E' a]at q;simp only[Hx,osI,DataW.lit.injEq,Lit.int.injEq,true_and]at q;rw[G,Jq]at r;have u:((cs.drop i).take 1)[0]? =some (.int k z):=by rw[r];rfl
  rw[List.getElem?_take_of_lt (by omega),GV,Ht]at u;rw[u,E' a,Ip,q]
 refine II λi=>?_;by_cases a:i<ls.length;rw[List.getElem?_take_of_lt a,l i a,GR,E' a];rfl;rw[Hw (by rw[Hh];omega),Hw (by simp;omega)]
theorem tF{P:Program}{n:String}{g:Nat}{cs:Array Value}(d:P.globalNamed n=some g)(h:w.var? P n=some cs):∃ e fz,w.heap[g]? =some (.cells cs e fz):=by unfold World.var? at h;rw[d]at h;simp only[Iq]at h;split at h;rename_i f e fz a;cases h;exact⟨e,fz,a⟩;cases h
theorem wH{laid:List (String×DataW Unit)}{n:String}{g:Nat}{t e:TypeId}{len:Nat}{k:IntKind}{ls:Le}(D:∀ j cs,E.gl j=some cs->j=g/\cs=ls.map (Value.int k))
 (r:(n,(.agg (ls.map λx=>.lit (.int k x)):DataW Unit))∈laid) (s:laidMet E.P laid w) (h:E.P.globalNamed n=some g) (f:(E.P.globals[g]?).map (·.type)=some t) (q:E.P.underlying t=some (.array len e)) (B:E.P.underlying e=some (.int k)) (C:E.P.cellsOf e=1) (d:len=ls.length) (a:0<ls.length):Glob E (sig0 w):=by intro j cs u;obtain⟨rfl,rfl⟩:=D j cs u;obtain⟨M,G,_,_⟩:=s;obtain⟨N,L,cs,i,p,m,l,K,J⟩:=rz G r;rw[h]at m;cases m;rw[f]at l;cases l;obtain⟨I,H,y⟩:=tF h K;refine⟨?_,by simpa using a,cs,I,H,y,?_⟩;rw[Hc];intro x o;obtain⟨z,_,rfl⟩:=GA.1 o;rfl;rw[GB];exact vQ q B C d J
structure TwinE (E E1:Env):Prop where
 ok:E1.Ok
 sym:E1.sym=false
 fns:ug E1
 prog:E1.P=E.P
 glob:∀ σ,Glob E σ->Glob E1 σ
theorem xp(a:TwinE E E1){f:FuncId}(h:iN E1 (evN E1 k) f args A=some (v,A')):CallAt E f args A v A':=by intro e w d R g i;rw[si a.sym]at h;have:=qq a.ok a.fns (nk a.ok a.fns k).1 f args A v A' h e w d (a.prog▸R) (a.glob e g) i;rw[a.prog]at this;exact this
def cloF(E E1:Env)(k:Nat)(f:FuncId)(args:Lh)(A1:AH)(K:KV):Prop:=match iN E1 (evN E1 k) f args A1 with
 |some r=>K r.1 r.2
 |none=>False
theorem cloF_ok(e:E.Ok)(a:GlOk E)(d:TwinE E E1){f:FuncId}{A1:AH}{ns:List (NPos×TypeId×Nat)}{zs:List NPos}{ws:Lg}{N:AH}(h:cloF E E1 k f args A1 (endF E A1 ns zs ws (λv1 i=>v1=v/\i=N))):CallAt E f args A1 v N:=by unfold cloF at h;split at h;rename_i r g;exact(xp d g).tell (ql e a h);exact h.elim
theorem W.closed(d:TwinE E E1)(r:bN E1 c=true){e:Ex}(h:evN E1 k c n F A=some (e,F',A'))(q:Q e F' A'):W E A0 n c Q F A:=by rintro m C a w ⟨g,u,j,i,t⟩ B s;rw[si d.sym]at h;have:=(nk d.ok d.fns k).1 c r n F A e F' A' h g a w (d.prog▸j) (d.glob g i) u B λz o f y x l=>s e F' A' z o q ⟨f,y,d.prog▸x,i.sub (Ext.sub j l),t.trans l⟩;rw[d.prog]at this;exact this
inductive CR (E E1:Env) (A0:AH) (n:Nat) (b:Code) (Q:Post):T Value->AH->Prop
 |next {k:Nat}{F F':T Value}{A A':AH}(h:evN E1 k b n F A=some (.normal,F',A')) (t:CR E E1 A0 n b Q F' A'):CR E E1 A0 n b Q F A
 |turn {F F1:T Value}{A A1:AH}(h:Turns E A0 n F A F1 A1) (t:CR E E1 A0 n b Q F1 A1):CR E E1 A0 n b Q F A
 |last {F:T Value}{A:AH}(h:W E A0 n b (Then (λ_ _=>False) Q) F A):CR E E1 A0 n b Q F A
theorem W.loopC(y:TwinE E E1)(z:bN E1 b=true)(h:CR E E1 A0 n b Q F A):W E A0 n (.loop b) Q F A:=by
 have l:∃ k,∀d i a w,At E d A0 i n F A a w->∀ g:Exit->Act->World->Prop,(∀q F' A' s r,Q q F' A'->At E d A0 i n F' A' s r->g q.of s r)->Code.rounds E.P b g k a w:=by
  induction h with
  | next h t m=>
   obtain⟨k,m⟩:=m;refine⟨k+1,fun d i a w e g j=>?_⟩;show b.wp E.P (Exit.then (Code.rounds E.P b g k) g) a w;refine W.closed y (A0:=A0) z (Q:=Then (λu x=>u=_/\x=_) (λ_ _ _=>False)) h ⟨rfl,rfl⟩ d i a w e _ λq u x s r o f=>?_;cases q with
   |normal=>obtain⟨rfl,rfl⟩:u=_/\x=_:=o;exact m d i s r f g j
   |exit id=>exact o.elim
   |ret=>exact o.elim
  |turn h t m=>obtain⟨k,m⟩:=m;exact⟨k,fun d i a w e g j=>m d i a w (h d i a w e) g j⟩
  |last h=>
  refine⟨1,fun d i a w e g j=>?_⟩;show b.wp E.P (Exit.then (Code.rounds E.P b g 0) g) a w;refine h d i a w e _ λq u x s r o f=>?_;cases q with
  |normal=>exact o.elim
  |exit id=>exact j _ _ _ _ _ o f
  |ret=>exact j _ _ _ _ _ o f
 obtain⟨k,l⟩:=l;exact fun d i a w e g j=>JB k (l d i a w e g j)
def evRd(E1:Env)(k:Nat)(b:Code)(n:Nat)(m:Nat):T Value->AH->Option (T Value×AH):=
 Nat.rec (motive:=λ_=>T Value->AH->Option (T Value×AH)) (λF A=>some (F,A)) (λ_ ih F A=>match evN E1 k b n F A with
  |some (.normal,F',A')=>ih F' A'
  |_=>none) m
theorem CR.rounds:∀ (m:Nat) {F F':T Value}{A A':AH},evRd E1 k b n m F A=some (F',A')->CR E E1 A0 n b Q F' A'->CR E E1 A0 n b Q F A
 |0,F,F',A,A',h,t=>by have h:some (F,A)=some (F',A'):=h;cases h;exact t
 | m+1,F,F',A,A',h,t=>by
  have h:(match evN E1 k b n F A with
   |some (.normal,F',A')=>evRd E1 k b n m F' A'
   |_=>none)=some (F',A'):=h
  split at h;rename_i d e a;exact .next a (CR.rounds m h t)
  cases h
def cloR(E E1:Env)(k:Nat)(b:Code)(n:Nat)(A0:AH)(m:Nat)(slots:Lg)(F:T Value)(A:AH)(K:KF):Prop:=match evRd E1 k b n m F A with
 |some r=>eL A0.next E [] [] [] slots r.1 r.2 K
 |none=>False
theorem CR.clo(d:E.Ok)(a:GlOk E){m:Nat}(h:cloR E E1 k b n A0 m slots F A (λF1 A1=>F1=F'/\A1=A'))(t:CR E E1 A0 n b Q F' A'):CR E E1 A0 n b Q F A:=by unfold cloR at h;split at h;rename_i r f;obtain⟨F1,A1,⟨rfl,rfl⟩,e⟩:=cQ d a (n:=n) h;exact CR.rounds m f (.turn e t);exact h.elim
def cloC(E E1:Env)(k:Nat)(c:Code)(n:Nat)(A0:AH)(slots:Lg)(F:T Value)(A:AH)(K:KF):Prop:=match evN E1 k c n F A with
 |some (.normal,F',A')=>eL A0.next E [] [] [] slots F' A' K
 |_=>False
def p7 (A:AH):Nat->Value->Value->Bool
 |0,_,_=>false
 | k + 1,v,v2=>match v2 with
   | .func (.yield sz) ⟨els⟩ ⟨[]⟩=>(match v with
     | .slice none 0 0=>els.isEmpty
     | .slice (some ⟨B,i,none⟩) n q=>(match look A B with
       |some c=>(Nat.ble (n*sz) (c.drop i).length&&Nat.ble n q)&&(Nat.beq els.length n&&(els.all (λx=>Nat.beq x.cells.size sz)&&veqs (p7 A k) ((c.drop i).take (n*sz)) (am els)))
       |none=>false)
     |_=>false)
   | .agg ⟨cs2⟩=>(match v with| .agg ⟨cs⟩=>veqs (p7 A k) cs cs2|_=>false)
   | .tuple ⟨cs2⟩=>(match v with| .tuple ⟨cs⟩=>veqs (p7 A k) cs cs2|_=>false)
   |v2=>scal v2&&veq 8 v v2
theorem dN{A:AH}{f:Value->Value->Bool}(g:∀ v e,f v e=true->Frz A v e):∀ {l l2:Lh},veqs f l l2=true->FrzL A l l2
 | [],[],_=>.nil
 | a::l,b::l2,h=>by
  have h:(bif f a b then veqs f l l2 else false)=true:=h;cases d:f a b with
  |true=>rw[d]at h;exact .cons (g a b d) (dN g h)
  |false=>rw[d]at h;cases h
 | [],_::_,h=>by cases h
 |_::_,[],h=>by cases h
theorem jq{A:AH}:∀ (k:Nat) (v a:Value),p7 A k v a=true->Frz A v a
 |0,_,_,h=>by cases h
 | k+1,v,a,h=>by
  unfold p7 at h;split at h;rename_i e d;split at h;have:d=[]:=by simpa using h
  subst this;exact .nils e;rename_i B i n q;split at h;rename_i c g;simp only[f',GO,GL,Hc]at h;obtain⟨⟨r,o⟩,m,l,j⟩:=h;exact Frz.slice g r o (dN (jq k) j) rfl (λx f=>l x f) m;cases h;cases h;split at h;exact .agg (dN (jq k) h);cases h;split at h;exact .tuple (dN (jq k) h);cases h;rw[f']at h;rw[jA _ _ _ h.2];exact .same (.scal h.1)
def cj:Nat->Code->Code
 |0,c=>c
 |m+1,c=>match c with| .seq _ b=>cj m b|c=>c
def zK(E1:Env)(k n:Nat):Nat->Code->T Value->AH->Option (T Value×AH)
 |0,_,F,A=>some (F,A)
 | m +1,c,F,A=>match c with
   | .seq a b=>bif bN E1 a then(match evN E1 k a n F A with
     |some (.normal,F',A')=>zK E1 k n m b F' A'
     |_=>none)else none
   |_=>none
theorem sh{E E1:Env}(e:TwinE E E1){A0:AH}{k n:Nat}{Q:Post}:∀ (m:Nat) {c:Code}{F F':T Value}{A A':AH},zK E1 k n m c F A=some (F',A')->W E A0 n (cj m c) Q F' A'->W E A0 n c Q F A
 |0,c,F,F',A,A',h,t=>by have h:some (F,A)=some (F',A'):=h;cases h;exact t
 |m+1,c,F,F',A,A',h,t=>by unfold zK at h;split at h;rename_i a b;cases d:bN E1 a;rw[d]at h;cases h;rw[d]at h;simp only[C']at h;split at h;rename_i g i f;exact W.seq (W.closed e d f (sh e m h t));cases h;cases h
def cloV(E E1:Env)(k:Nat)(c:Code)(m n:Nat)(A0:AH)(slots:Lg)(F:T Value)(A:AH)(K:KF):Prop:=match zK E1 k n m c F A with
 |some r=>eL A0.next E [] [] [] slots r.1 r.2 K
 |none=>False
theorem nt(e:E.Ok)(a:GlOk E)(d:TwinE E E1){m:Nat}(h:cloV E E1 k c m n A0 slots F A (λF1 A1=>F1=F'/\A1=A'))(t:W E A0 n (cj m c) Q F' A'):W E A0 n c Q F A:=by unfold cloV at h;split at h;rename_i r g;obtain⟨F1,A1,⟨rfl,rfl⟩,f⟩:=cQ e a (n:=n) h;exact sh d m g (W.turns f t);exact h.elim
def cloX(X:SX)(d:Nat)(c:Code)(n:Nat)(A0:AH)(slots:Lg)(F:T Value)(A:AH)(K:KF):Prop:=match c with
 | .seq a _=>sx X d A0 n a F A (Then (λF' A'=>eL A0.next X.E [] [] [] slots F' A' K) (λ_ _ _=>False))
 |_=>False
def cloE(E E1:Env)(k:Nat)(b:Code)(n i:Nat)(A0:AH)(slots:Lg)(F:T Value)(A:AH)(K:KF):Prop:=match evN E1 k b n F A with
 |some (.exit id,F',A')=>bif Nat.beq id i then eL A0.next E [] [] [] slots F' A' K else False
 |_=>False
theorem CR.exit(f:E.Ok)(d:GlOk E)(e:TwinE E E1){i:Nat}{rest:Code}(l:bN E1 b=true)(h:cloE E E1 k b n i A0 slots F A (λF1 A1=>F1=F'/\A1=A'))(t:W E A0 n rest Q F' A'):CR E E1 A0 n b (Blk i (Then (W E A0 n rest Q) Q)) F A:=by unfold cloE at h;split at h;rename_i id m o j;cases a:Nat.beq id i;rw[a]at h;exact h.elim;rw[a]at h;obtain rfl:=Gy a;obtain⟨F1,A1,⟨rfl,rfl⟩,g⟩:=cQ f d (n:=n) h;exact .last (W.closed e l j (show Then (λ_ _=>False) (Blk id (Then (W E A0 n rest Q) Q)) (.exit id) m o from Blk.out (Then.normal (W.turns g t))));exact h.elim
theorem W.loopPiece(e:E.Ok)(a:GlOk E)(d:TwinE E E1){i:Nat}{r rest:Code}(j:c=.seq (.seq r (.block i (.loop b))) rest)(g:bN E1 r=true)(l:bN E1 b=true)(h:cloC E E1 k r n A0 slots F A (λF1 A1=>F1=F'/\A1=A'))(t:CR E E1 A0 n b (Blk i (Then (W E A0 n rest Q) Q)) F' A'):W E A0 n c Q F A:=by rw[j];unfold cloC at h;split at h;rename_i o q m;obtain⟨F1,A1,⟨rfl,rfl⟩,f⟩:=cQ e a (n:=n) h;exact W.seq (W.seq (W.closed d g m (Then.normal (W.block (W.turns f (W.loopC d l t))))));exact h.elim
def cloK(X:SX)(d:Nat)(c:Code)(fn:Func)(A0:AH)(F:T Value)(A:AH)(K:KV):Prop:=sx X d A0 fn.ntmps c F A (finK X.E fn.results.toList K)
theorem xq{X:SX}(a:X.Ok){d:Nat}{fn:Func}{ns:List (NPos×TypeId×Nat)}{zs:List NPos}{ws:Lg}{N:AH}(h:cloK X d c fn A0 F A (endF X.E A0 ns zs ws (λv1 j=>v1=v/\j=N))):W X.E A0 fn.ntmps c (Fin X.E fn (EndF X.E A0 v N)) F A:=
 (jI a h).mono λl F' A' q=>by obtain⟨i,e,g,f⟩:=gq q;exact⟨i,e,g,ql a.ok a.gl f⟩
theorem wJ{P:Program}{σ σ':Sig}{A:AH}{w:World}(R:Rel P σ A w)(e:∀ b o,σ.ro b=some o->σ'.ro b=some o)
 (d:∀ B o x,A.t.get B=some o->o.here=true->σ B=some x->σ'.ro x.1=w.heap[x.1]?):∀ {l l2 l':Lh},FrzL A l l2->VRs σ l l'->VRs σ' l2 l'
 |_,_,_,.nil,.nil=>.nil
 |_,_,_,.cons h t,.cons a b=>.cons (h.ok R e d _ a) (wJ R e d t b)
def Af(v:Value):Prop:=∀ (σ:Sig) (v':Value),VR σ v v'->v'=v/\∀ σ':Sig,VR σ' v v
theorem pu{l:Lh}(h:l.all flat=true):Af (.tuple ⟨l⟩):=fun f g d=>by
 cases d with
 |tuple e=>rw[ng h e];exact⟨rfl,fun a=>.tuple (iJ h)⟩
theorem zG{f:FuncId}(h:Con E f (dw p)){a:Lh}(y:p a=some v)(s:Af v)(C:FrzL A args a):CallAt E f args A v A:=by
 intro l w i R z G;let σ2:Sig:=⟨λ_=>none,λb=>w.heap[b]?,λ_=>False⟩;have K:Rel E.P σ2 ⟨.leaf,0⟩ w:=⟨λB o h=>by simp[T.get]at h,λB S o N x L h=>by simp[T.get]at h,(λB x h=>by cases h),λB h=>rfl,λb o h=>h,λB o x h=>by simp[T.get]at h,λ_ h=>h.elim⟩;have m:Glob E σ2:=Glob.sub (σ:=sigR l) (λg J h=>z g J h) ⟨(λB x h=>by cases h),λb o h=>R.ro b o h⟩;refine(h a ⟨.leaf,0⟩ v ⟨.leaf,0⟩ (by simp[dw,y]) σ2 w i K m (wJ R (λb o q=>R.ro b o q) (λB o x _ _ _=>rfl) C G)).mono λe r D=>?_;obtain⟨M,u,rfl,t,O,j⟩:=D;have d:∀ b,b<w.heap.size->r.heap[b]? =w.heap[b]?:=λb q=>j.frame b q λB o x H=>by simp[T.get]at H
 have I:=(s _ _ t).1;subst I;exact⟨_,sigB l w r,rfl,(s _ _ t).2 _,relB R d j.size,extB R d j.size j.os j.tape j.output⟩
def fzR(args2:Lh)(v:Value):RunF:=λargs A=>bif veqs (p7 A 16) args args2 then some (none,v,A)else none
theorem fzR_ok{f:FuncId}(h:Con E f (dw p)){a:Lh}(i:p a=some v)(g:Af v):∀ args A q u A',fzR a v args A=some (q,u,A')->PH q->CallAt E f args A u A':=by intro args A q u A' d _;unfold fzR at d;cases e:veqs (p7 A 16) args a;rw[e]at d;cases d;rw[e]at d;simp only[C',osI,GC]at d;obtain⟨rfl,rfl,rfl⟩:=d;exact zG h i g (dN (jq 16) e)
def litR(args0:Lh)(objs0:List AObj)(v:Value)(objs1:List AObj):Lh->List AObj->Option (Ll×Value×List AObj):=λargs objs=>some (some (args=args0/\objs=objs0),v,objs1)
theorem pI{f:FuncId}{d:Lh}{a e:List AObj}(h:CallAt E f d (aS a) v (aS e)):∀ args A p u A',frmR (λ_=>none) (litR d a v e) args A=some (p,u,A')->PH p->CallAt E f args A u A':=wL λargs g p u i j l=>by unfold litR at j;cases j;obtain⟨rfl,rfl⟩:args=d/\g=a:=l;exact h
end
end Go.AM
namespace Go.AM
def HG(x:Value):Prop:=HF x∨∃ f,x=.func (.func f) ⟨[]⟩ ⟨[]⟩
theorem HG.moves{σ σ':Sig}(a:∀ b o,σ.ro b=some o->σ'.ro b=some o):∀ {l l':Lh},(∀x∈l,HG x)->VRs σ l l'->VRs σ' l l'
 |_,_,_,.nil=>.nil
 | _,_,h,.cons hv t=>by
  refine .cons ?_ (HG.moves a (λx c=>h x (GS _ c)) t);rcases h _ (List.mem_cons_self ..)with h1|⟨f,rfl⟩;exact h1.move a _ hv;cases hv with
  |func g e c d=>cases c;cases d;exact .func _ e .nil .nil
theorem uj{E:Env}(D:E.Ok){f:FuncId}{fn:Func}(q:E.fn f=some fn){args:Lh}{v:Value}(K:∀ x∈args,HG x)(r:Walk E fn args v)(A:AH):CallAt E f args A v A:=by
 intro j w t R J M;obtain⟨c,F,l,m,a,r⟩:=r;refine(km D q l a (H9 m) r (relR R) (λg O h=>J g O h) (HG.moves (σ:=j) (σ':=sigR j) (λ_ _ h=>h) K M)).mono λe n L=>?_;obtain⟨Q,u,S,z,rfl,p,N,y,i⟩:=L;have d:∀ b,b<w.heap.size->n.heap[b]? =w.heap[b]?:=λb m=>i.frame b m λB o x s=>by simp[T.get]at s
 refine⟨u,sigB j w n,rfl,p.ok y (λb o m=>?_) (λB o x s I H=>?_) u N,relB R d i.size,extB R d i.size i.os i.tape i.output⟩;show(if b<w.heap.size then j.ro b else n.heap[b]?)=some o;rcases i.rog b o m with k|k|⟨P,G,C,k,_⟩;have k:j.ro b=some o:=k;rw[Gw (kl (R.ro b o k))];exact k;rw[D' (by omega)];exact y.ro b o m;simp[T.get]at k;show(if x.1<w.heap.size then j.ro x.1 else n.heap[x.1]?)=n.heap[x.1]?;rcases i.orig2 B o x s I H with k|⟨P,G,C,k,_⟩;rw[D' (by omega)];simp[T.get]at k
end Go.AM
