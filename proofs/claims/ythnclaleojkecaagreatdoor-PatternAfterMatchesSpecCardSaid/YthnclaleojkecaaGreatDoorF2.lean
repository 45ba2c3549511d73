/- A part of the proof. -/
import Derived.Test.YthnclaleojkecaaGreatDoorF
import Derived.Test.YthnclaleojkecaaGreatDoorC
import Derived.OpenShut
import Derived.MakeChecks
set_option linter.unusedVariables false
set_option linter.unusedSimpArgs false
set_option linter.unusedSectionVars false
namespace Go.AM
noncomputable section
variable {A A0:AH}{E:Env}{p q:Li}{B i n x:Nat}{f g:Nat->Lk}{σ:Sig}{F:T Value}
def yz(F:T Value)(l:Lg):List (Nat×Value):=List.rec (motive:=λ_=>List (Nat×Value)) [] (λt _ ih=>match F.get t with|some v=>(t,v)::ih|none=>ih) l
theorem jP{F:T Value}:∀ {l:Lg}{t:Nat}{v:Value},(t,v)∈yz F l->F.get t=some v
 | [],t,v,h=>by cases h
 |x::l,t,v,h=>by have h:(t,v)∈(match F.get x with|some v=>(x,v)::yz F l|none=>yz F l):=h;split at h;rename_i u a;rcases Gz.1 h with e|e;cases e;exact a;exact jP e;exact jP h
theorem Turns.pick{F1:T Value}(l:Lg)(h:ofL (yz F l) .leaf=some F1):Turns E A0 n F A F1 A:=by intro e k a w ⟨σ,c,R,j,X⟩;refine⟨σ,⟨c.size,λt v b=>?_,c.defers⟩,R,j,X⟩;have b:F1.get t=some v:=b;rcases dz h b with d|d;exact c.val t v (jP d);simp[T.get]at d
def rhoP(p:Li)(f:Nat->Lk)(B:Nat):Lk:=bif Nat.beq (T.numF p (T.unF p B)) B then f (T.unF p B)else none
theorem gY(p:Li)(f:Nat->Lk)(i:Nat):rhoP p f (T.numF p i)=f i:=by unfold rhoP;rw[T.unF_numF];simp[GG]
theorem cT(h:rhoP p f B=some x):∃ i,B=T.numF p i/\f i=some x:=by unfold rhoP at h;cases a:Nat.beq (T.numF p (T.unF p B)) B;rw[a]at h;cases h;rw[a]at h;exact⟨_,(Gt a).symm,h⟩
theorem CL(h:∀ i,B≠T.numF p i):rhoP p f B=none:=by
 cases a:rhoP p f B with
 |none=>rfl
 |some x=>obtain⟨i,b,_⟩:=cT a;exact absurd b (h i)
def rho2(p:Li)(f:Nat->Lk)(q:Li)(g:Nat->Lk)(B:Nat):Lk:=match rhoP p f B with
 |some x=>some x
 |none=>rhoP q g B
theorem nW(h:rho2 p f q g B=some x):(∃i,B=T.numF p i/\f i=some x)∨(∃i,B=T.numF q i/\g i=some x):=by unfold rho2 at h;split at h;rename_i y a;cases h;exact .inl (cT a);exact .inr (cT h)
theorem qX(h:f i=some x):rho2 p f q g (T.numF p i)=some x:=by unfold rho2;rw[gY,h]
theorem rho2_q(a:∀ i j,T.numF p i≠T.numF q j):rho2 p f q g (T.numF q i)=g i:=by unfold rho2;rw[CL (λj e=>a j i e.symm),gY]
theorem VR.same{B' m:Nat}{v':Value}(c:∀ x,σ B=some x->σ B'=some x)(h:VR σ (.slice (some ⟨B,0,none⟩) n m) v'):VR σ (.slice (some ⟨B',0,none⟩) n m) v':=by
 cases h with
 |slice _ _ _ h l=>exact .slice _ _ _ (c _ h) l
 |sliceU _ h b=>exact .sliceU _ (c _ h) b
 |sliceV _ _ _ h b=>exact .sliceV _ _ _ (c _ h) b
 |sliceE=>exact .sliceE _ _ _
 |gs0 _ _ _ a d=>exact .gs0 _ _ _ a d
 |gs e r s j m h b o k d=>exact .gs e _ _ j _ (c _ h) b o k d
theorem Turns.focC{g:Nat->Option AObj}{B0 j k m:Nat}{els tl l r:Lh}{e0 e:TypeId}{t1 t2 Q:T AObj}(U:T.getFn p A.t=some g)(J:g j=some (.gro l r e))(hj:T.numF p j<A.next)(hN:¬ T.InF p A.next)
 (O:A.t.get B0=some (.gro els tl e0)) (I:¬ T.InF p B0) (z:B0≠A.next) (V:∀ x∈els++tl,fJ x) (u:(els++tl)[i]? =some (.slice (some ⟨T.numF p j,0,none⟩) k m))
 (Y:T.setFn p A.t (λx=>bif Nat.beq x j then none else g x)=some t1) (h2:T.set FU t1 A.next (.gro l r e)=some t2) (P:T.set FU t2 B0 (.gro ((els++tl).set i (.slice (some ⟨A.next,0,none⟩) k m)) [] e0)=some Q):Turns E A0 n F A F ⟨Q,A.next+1⟩:=by
 intro Z w0 a w ⟨σ,hF,R,K,X⟩;have v:A.t.get (T.numF p j)=some (.gro l r e):=by rw[IH U];exact J
 have H:∀ C,t2.get C=if C=A.next then some (.gro l r e)else if C=T.numF p j then none else A.t.get C:=λC=>by
  rw[Hl h2];by_cases o:C=A.next
  rw[E' o,E' o];rw[C' o,C' o];by_cases u:T.InF p C;obtain⟨x,rfl⟩:=u;rw[Jg Y,IH U];by_cases D:x=j;have:Nat.beq x j=true:=by rw[D];simp[GG]
  rw[this,E' (by rw[D])];rfl;have:Nat.beq x j=false:=by cases P:Nat.beq x j;rfl;exact absurd (Gt P) D
  rw[this,C' (λd=>D (T.numF_inj p d))];rfl;rw[I5 Y C u,C' (λd=>u ⟨j,d⟩)]
 have hk:σ A.next=none:=R.fresh _ (GE _)
 have c:=lQ (N:=T.numF p j) hk;have R1:=Rel.focus R v hj H
 have X1:=Ext.focus (σ:=σ) (w:=w) v H
 have M:t2.get B0=some (.gro els tl e0):=by rw[H,C' z,C' (λd=>I ⟨j,d⟩)];exact O
 have L:T.numF p j≠A.next:=λd=>hN ⟨j,d.symm⟩
 obtain⟨R2,X2⟩:=jJ R1 M V (λx hx=>by
  rcases HT hx with h|h;exact V x h;rw[h];exact fR _ _ _) (by rw[GF]) (λq x x2 G b v' s=>by
  rw[Hm]at b;split at b;rename_i o;subst o;split at b;simp only[osI]at b;rw[u]at G;cases G;rw[<-b];exact VR.same (λy S=>by rw[eN];rw[cm L]at S;exact S) s;cases b;rw[G]at b;cases b;exact s) P
 exact⟨_,hF.mono c,R2,K.sub c,X.trans (X1.trans X2)⟩
theorem uT{P:Program}{w:World}(R:Rel P σ A w){c:Nat}{es es2:Lc}{t:T AObj}(e:A.t.get B=some (.map es c))(d:∀ {l},ERs σ es l->ERs σ es2 l)(b:T.set FU A.t B (.map es2 c)=some t):Rel P σ ⟨t,A.next⟩ w/\Ext σ A w σ ⟨t,A.next⟩ w:=
 Rel.retell (o2:=.map es2 c) R e b rfl rfl rfl (λr m o h=>by obtain⟨a,k,j⟩:=h;exact⟨a,k,d j⟩)
inductive FE (N k:Nat):Lc->Lc->Prop
 |nil:FE N k [] []
 |old {x:Value×Value×Nat}{l l2:Lc}(t:FE N k l l2):FE N k (x::l) (x::l2)
 |new {key:Value}{n m b:Nat}{l l2:Lc}(t:FE N k l l2):FE N k ((key,.slice (some ⟨N,0,none⟩) n m,b)::l) ((key,.slice (some ⟨k,0,none⟩) n m,b)::l2)
theorem FE.ers{N k:Nat}(a:∀ x,σ N=some x->σ k=some x):∀ {es es2:Lc}{l:List MapEntry},FE N k es es2->ERs σ es l->ERs σ es2 l
 |_,_,_,.nil,h=>h
 |_,_,_,.old t,.cons he ht=>.cons he (t.ers a ht)
 |_,_,_,.new t,.cons he ht=>.cons ⟨he.1,VR.same a he.2.1,he.2.2⟩ (t.ers a ht)
theorem Turns.focM{g:Nat->Option AObj}{B0 j c:Nat}{es es2:Lc}{l r:Lh}{e:TypeId}{t1 t2 K:T AObj}(M:T.getFn p A.t=some g)(z:g j=some (.gro l r e))(U:T.numF p j<A.next)(V:¬ T.InF p A.next)
 (I:A.t.get B0=some (.map es c)) (u:¬ T.InF p B0) (k:B0≠A.next) (Z:FE (T.numF p j) A.next es es2)
 (O:T.setFn p A.t (λx=>bif Nat.beq x j then none else g x)=some t1) (h2:T.set FU t1 A.next (.gro l r e)=some t2) (J:T.set FU t2 B0 (.map es2 c)=some K):Turns E A0 n F A F ⟨K,A.next+1⟩:=by
 intro P w0 a w ⟨σ,Y,R,D,X⟩;have h:A.t.get (T.numF p j)=some (.gro l r e):=by rw[IH M];exact z
 have s:∀ C,t2.get C=if C=A.next then some (.gro l r e)else if C=T.numF p j then none else A.t.get C:=λC=>by
  rw[Hl h2];by_cases o:C=A.next
  rw[E' o,E' o];rw[C' o,C' o];by_cases v:T.InF p C;obtain⟨x,rfl⟩:=v;rw[Jg O,IH M];by_cases m:x=j;have:Nat.beq x j=true:=by rw[m];simp[GG]
  rw[this,E' (by rw[m])];rfl;have:Nat.beq x j=false:=by cases J:Nat.beq x j;rfl;exact absurd (Gt J) m
  rw[this,C' (λd=>m (T.numF_inj p d))];rfl;rw[I5 O C v,C' (λd=>v ⟨j,d⟩)]
 have S:σ A.next=none:=R.fresh _ (GE _)
 have b:=lQ (N:=T.numF p j) S;have R1:=Rel.focus R h U s
 have X1:=Ext.focus (σ:=σ) (w:=w) h s
 have H:t2.get B0=some (.map es c):=by rw[s,C' k,C' (λd=>u ⟨j,d⟩)];exact I
 have G:T.numF p j≠A.next:=λd=>V ⟨j,d.symm⟩
 obtain⟨R2,X2⟩:=uT R1 H (λQ=>Z.ers (λy L=>by rw[eN];rw[cm G]at L;exact L) Q) J;exact⟨_,Y.mono b,R2,D.sub b,X.trans (X1.trans X2)⟩
end
end Go.AM
namespace Go.MK
open Go Go.AM
noncomputable section
abbrev _root_.Go.Jy:=@List.eraseIdx_cons_succ
abbrev _root_.Go.HB:=@List.nodup_cons
abbrev _root_.Go.Jz:=@List.getElem?_cons_zero
abbrev _root_.Go.Jb:=@List.set_cons_zero
abbrev _root_.Go.GM:=@List.map_append
abbrev _root_.Go.Ip:=@List.nodup_append
abbrev _root_.Go.Im:=@List.map_set
variable {K V:Type}[DecidableEq K]
def bidx:List (K×V×Nat)->K->Nat->Option (Nat×V×Nat)
 | [],_,_=>none
 |x::m,k,i=>if x.1=k then some (i,x.2)else bidx m k (i+1)
variable {E:Env}{k:K}{kv:K->Value}{et kt t:TypeId}{z:Value}
def bget(m:List (K×V×Nat))(k:K):Option V:=(bidx m k 0).map λx=>x.2.1
def bset(m:List (K×V×Nat))(c:Nat)(k:K)(v:V):List (K×V×Nat)×Nat:=match bidx m k 0 with
 |none=>(m++[(k,v,c)],c+1)
 |some (j,u)=>(m.set j (k,v,u.2),c)
def bdel(m:List (K×V×Nat))(k:K):List (K×V×Nat):=match bidx m k 0 with
 |none=>m
 |some (j,_)=>m.eraseIdx j
def eC(kv:K->Value)(vv:V->Value)(m:List (K×V×Nat)):Lc:=m.map λx=>(kv x.1,vv x.2.1,x.2.2)
theorem AQ{a b :Type}(f: a -> b):∀ (l:List a) (i:Nat),(l.eraseIdx i).map f=(l.map f).eraseIdx i
 | [],i=>rfl
 |x::l,0=>rfl
 |x::l,i+1=>by rw[Jy,Hq,Hq,Jy,AQ f l i]
theorem gP{m:List (K×V×Nat)}:∀ {i j:Nat}{u:V×Nat},bidx m k i=some (j,u)->∃ q,j=i+q/\m[q]? =some (k,u):=by
 induction m with
 |nil=>intro i j u h;cases h
 |cons x m a=>intro i j u h;unfold bidx at h;split at h;rename_i b;cases h;exact⟨0,rfl,by simp[<-b]⟩;obtain⟨q,d,c⟩:=a h;exact⟨q+1,by omega,by simpa using c⟩
theorem uf(m:List (K×V×Nat))(k:K):∀ i,bidx m k i=(bidx m k 0).map λx=>(i+x.1,x.2):=by
 induction m with
 |nil=>intro i;rfl
 |cons x m a=>intro i;unfold bidx;split;rfl;rw[a (i+1),a (0+1),Option.map_map];congr 1;funext y;simp;omega
theorem bT(x:K×V×Nat)(m:List (K×V×Nat))(k:K):bget (x::m) k=if x.1=k then some x.2.1 else bget m k:=by unfold bget;show(Option.map _ (if x.1=k then some (0,x.2)else bidx m k (0+1)))=_;split;rfl;rw[uf m k,Option.map_map];rfl
theorem bget_none{m:List (K×V×Nat)}:bget m k=none↔¬ k∈m.map (·.1):=by
 induction m with
 |nil=>simp[bget,bidx]
 |cons x m a=>rw[bT,Hq,Gz];by_cases h:x.1=k;simp[h];have:¬ k=x.1:=λe=>h e.symm;simp[h,this,a]
theorem Ae(m:List (K×V×Nat))(x:K×V×Nat)(k:K):bget (m++[x]) k=match bget m k with|some v=>some v|none=>if x.1=k then some x.2.1 else none:=by
 induction m with
 |nil=>rw[Jq,bT];rfl
 |cons y m a=>rw[HW,bT,bT,a];split;rfl;rfl
theorem Aa{m:List (K×V×Nat)}{c:Nat}{a:K}{v:V}(d:(m.map (·.1)).Nodup):bget (bset m c k v).1 a=if k=a then some v else bget m a:=by
 unfold bset;cases f:bidx m k 0 with
 | none=>
  have l:bget m k=none:=by unfold bget;rw[f];rfl
  show bget (m++[(k,v,c)]) a=_;rw[Ae];by_cases e:k=a;subst e;simp[l];cases bget m a<;>simp[e]
 |some x=>
 obtain⟨j,u⟩:=x;obtain⟨q,h,b⟩:=gP f;have i:j=q:=by omega
 subst i;show bget (m.set j (k,v,u.2)) a=_;clear f h;induction m generalizing j with
 |nil=>simp at b
 |cons y m g=>
 rw[Hq,HB]at d;cases j with
 |zero=>simp only[Jz,osI]at b;rw[Jb,bT,bT,b];by_cases e:k=a<;>simp[e]
 |succ j=>simp only[H0]at b;rw[List.set_cons_succ,bT,bT,g d.2 j b];by_cases e:k=a;have:¬ y.1=a:=λn=>d.1 (Gv.2 ⟨_,GO b,by rw[n];exact e⟩);simp[e,this];simp[e]
theorem xx{m:List (K×V×Nat)}{c:Nat}{v:V}(f:(m.map (·.1)).Nodup):((bset m c k v).1.map (·.1)).Nodup:=by
 unfold bset;cases d:bidx m k 0 with
 | none=>
  have h:bget m k=none:=by unfold bget;rw[d];rfl
  have:=bget_none.1 h;show((m++[(k,v,c)]).map (·.1)).Nodup;rw[GM];exact Ip.2 ⟨f,by simp,λa o b d=>by
   have:b=k:=by simpa using d
   rw[this];exact λe=>(bget_none.1 h) (e▸o)⟩
 |some x=>
 obtain⟨j,u⟩:=x;obtain⟨q,p,g⟩:=gP d;have n:j=q:=by omega
 subst n;show((m.set j (k,v,u.2)).map (·.1)).Nodup;rw[Im];have l:=(Gw.1 g).1;have:(m.map (·.1)).set j k=m.map (·.1):=by refine Iz λi=>?_;rw[Hm];split;rename_i e;subst e;rw[GQ,g,Gu,E' l];rfl;rfl
 rw[this];exact f
theorem Af{m:List (K×V×Nat)}{a:K}(c:(m.map (·.1)).Nodup):bget (bdel m k) a=if k=a then none else bget m a:=by
 unfold bdel;cases d:bidx m k 0 with
 | none=>
  have l:bget m k=none:=by unfold bget;rw[d];rfl
  show bget m a=_;by_cases e:k=a;subst e;simp[l];simp[e]
 |some x=>
 obtain⟨j,u⟩:=x;obtain⟨q,h,b⟩:=gP d;have i:j=q:=by omega
 subst i;show bget (m.eraseIdx j) a=_;clear d h;induction m generalizing j with
 |nil=>simp at b
 |cons y m g=>
 rw[Hq,HB]at c;cases j with
 |zero=>simp only[Jz,osI]at b;rw[List.eraseIdx_cons_zero,bT,b];by_cases e:k=a;have f:=c.1;rw[b]at f;have:=(bget_none (m:=m) (k:=k)).2 f;rw[<-e,this];simp;simp[e]
 |succ j=>simp only[H0]at b;rw[Jy,bT,bT,g c.2 j b];by_cases e:k=a;have:¬ y.1=a:=λn=>c.1 (Gv.2 ⟨_,GO b,by rw[n];exact e⟩);simp[e,this];simp[e]
theorem xE{m:List (K×V×Nat)}(a:(m.map (·.1)).Nodup):((bdel m k).map (·.1)).Nodup:=by
 unfold bdel;cases bidx m k 0 with
 |none=>exact a
 |some x=>exact a.sublist ((List.eraseIdx_sublist _ _).map _)
theorem j9{kind:TypeDesc}{kv:K->Value}{c:V->Value}(h:∀ a b,jG kind (kv a) (kv b)=some (decide (a=b)))(k:K):∀ (m:List (K×V×Nat)) (i:Nat),
 eI kind (kv k) (eC kv c m) i=some ((bidx m k i).map λx=>(x.1,c x.2.1))
 | [],i=>rfl
 |x::m,i=>by show eI kind (kv k) ((kv x.1,c x.2.1,x.2.2)::eC kv c m) i=_;simp only[eI,h];by_cases e:x.1=k;simp[bidx,e];have d:¬ k=x.1:=λh=>e h.symm;simp only[d,Ik,bidx,C' e];exact j9 h k m _
theorem gG{E:Env}{kt:TypeId}{kv:K->Value}{c:V->Value}(h:∀ a b,oP E kt (kv a) (kv b)=some (decide (a=b)))(k:K):∀ (m:List (K×V×Nat)) (i:Nat),
 c7 E kt (kv k) (eC kv c m) i=some ((bidx m k i).map λx=>(x.1,c x.2.1))
 | [],i=>rfl
 |x::m,i=>by show c7 E kt (kv k) ((kv x.1,c x.2.1,x.2.2)::eC kv c m) i=_;simp only[c7,h];by_cases e:x.1=k;simp[bidx,e];have d:¬ k=x.1:=λh=>e h.symm;simp only[d,Ik,bidx,C' e];exact gG h k m _
theorem fZ(h:KeyOk E t kt et kv z)(b:V->Value)(k:K)(m:List (K×V×Nat)):
 iu E kt (kv k) (eC kv b m)=some ((bidx m k 0).map λx=>(x.1,b x.2.1)):=by
 obtain⟨a,d,e⟩:=h.eq;unfold iu;rw[d];simp only;rcases e with c|⟨c,f⟩;rw[j9 c];cases m with
 |nil=>rfl
 |cons x m=>
 have:eI a (kv k) (eC kv b (x::m)) 0=none:=by show eI a (kv k) ((kv x.1,b x.2.1,x.2.2)::eC kv b m) 0=_;simp only[eI,c]
 rw[this];exact gG f k (x::m) 0
theorem ic(h:KeyOk E t kt et kv z)(a:V->Value)(k:K)(m:List (K×V×Nat)):
 cu E t (eC kv a m) (kv k)=some (match bget m k with|some v=>(a v,true)|none=>(z,false)):=by
 obtain⟨i,d,c,b⟩:=h.zero;unfold cu bget;rw[h.und];simp only[h.flat,h.ok,HJ,D',fZ h a k m];cases bidx m k 0 with
 |none=>simp only[Jp,d,c,b,D']
 |some x=>rfl
theorem jk(h:KeyOk E t kt et kv z)(a:V->Value)(k:K)(v:V)(m:List (K×V×Nat))(c:Nat):
 ba E t (eC kv a m) c (kv k) (a v)=some (eC kv a (bset m c k v).1,(bset m c k v).2):=by
 unfold ba bset;rw[h.und];simp only[h.flat,h.ok,HJ,D',fZ h a k m];cases f:bidx m k 0 with
 |none=>simp only[Jp];unfold eC;rw[GM];rfl
 |some x=>
 obtain⟨j,u⟩:=x;obtain⟨q,g,e⟩:=gP f;have b:j=q:=by omega
 subst b;have d:nth (eC kv a m) j=some (kv k,a u.1,u.2):=by rw[aS];unfold eC;rw[GQ,e];rfl
 simp only[Hz,d,h.bits,D'];unfold eC;rw[Im]
theorem wZ(h:KeyOk E t kt et kv z)(a:V->Value)(k:K)(m:List (K×V×Nat)):
 delE E t (eC kv a m) (kv k)=some (eC kv a (bdel m k)):=by
 unfold delE bdel;rw[h.und];simp only[h.flat,h.ok,D',fZ h a k m];cases b:bidx m k 0 with
 |none=>rfl
 |some x=>obtain⟨j,u⟩:=x;simp only[Hz];unfold eC;rw[AQ]
end
end Go.MK
namespace Go.AM
noncomputable section
variable {A A' A0:AH}{b c:Code}{E E1:Env}{f:FuncId}{slots:Lg}{args:Lh}{p:Lh->Lj}{k n:Nat}{Q:Post}{F F':T Value}{v:Value}{w:World}
def bJ(X' X:SX)(d n:Nat)(A0:AH)(c:Code)(p:Lg)(K:KX)(again:KF)(F:T Value)(A:AH):Prop:=sx X' d A0 n (ak (subC p c)) F A (stepR X d n A0 c p K again)
def pf(E:Env)(A0:AH)(n:Nat)(tl:KF->KF):Prop:=∀ K F A,tl K F A->∃ F1 A1,K F1 A1/\Turns E A0 n F A F1 A1
theorem LAtZ.stepT{X:SX}{d:Nat}{p:Lg}{K:KX}(r:iI (subC p c)=true)(I:Nat->T Value->AH->Prop)
 (a:∀ k F A,I k F A->∃ (g:SX) (tl:KF->KF),g.Ok/\g.E=X.E/\pf X.E A0 n tl/\bJ g X d n A0 c p K (tl λF1 A1=>∃ e,e<k/\∃ i j,I e i j/\Turns X.E A0 n F1 A1 i j) F A) {F1:T Value}{A1:AH}(h:I k F1 A1) (m:Turns X.E A0 n F A F1 A1):LAtZ X d n A0 c p K F A:=by
 refine .mk ?_;rw[jV r];refine W.loopT I (λk F A u=>?_) h m;obtain⟨g,tl,s,x,t,o⟩:=a k F A u;have l:=jt s o;rw[x]at l;refine l.mono λD F' A' q=>?_;cases D with
 |normal=>obtain⟨F1,A1,⟨e,C,i,j,B,z⟩,y⟩:=t _ _ _ q;exact⟨e,i,j,C,B,y.trans z⟩
 |exit id=>exact q
 |ret=>exact q
theorem x3{p:Prop}:∀ {l:Lh},(∀x∈l,HF x)->p->HFs l p
 | [],_,hp=>hp
 |v::l,h,hp=>⟨h v GL,x3 (λx a=>h x (GJ _ a)) hp⟩
def IdTo(k:Nat)(ρ:Nat->Lk):Prop:=∀ B,B<k->ρ B=some B
abbrev FamL:=List (Li×(Nat->Option AObj))
def zG(t:T AObj)(l:List Li):Option FamL:=List.rec (motive:=λ_=>Option FamL) (some []) (λp _ ih=>match T.getFn p t with
 |some g=>(match ih with|some r=>some ((p,g)::r)|none=>none)
 |none=>none) l
def tR(t:T AObj)(l:Ld):Option (List (Nat×Nat×AObj)):=List.rec (motive:=λ_=>Option (List (Nat×Nat×AObj))) (some []) (λx _ ih=>match t.get x.2 with
 |some o=>(match ih with|some r=>some ((x.1,x.2,o)::r)|none=>none)
 |none=>none) l
def FQ(ρ:Nat->Lk)(gs:FamL)(p:Li)(g:Nat->Option AObj)(l:List (Nat×Nat×AObj)):Prop:=∀ i o1,g i=some o1->(∃x,x∈l/\x.1=i/\ρ (T.numF p i)=some x.2.1/\ROX ρ x.2.2 o1)∨∃ x j o,x∈gs/\ρ (T.numF p i)=some (T.numF x.1 j)/\x.2 j=some o/\ROX ρ o o1
abbrev FamS:=List (Li×(Nat->Option AObj)×Ld)
def Ff(ρ:Nat->Lk)(gs:FamL)(t:T AObj)(l:FamS):Ll:=List.rec (motive:=λ_=>Ll) (some True) (λx _ ih=>match tR t x.2.2 with
 |some os=>(match ih with|some q=>some (FQ ρ gs x.1 x.2.1 os/\q)|none=>none)
 |none=>none) l
theorem mS{t:T AObj}:∀ {l:List Li}{r:FamL},zG t l=some r->∀ x∈r,T.getFn x.1 t=some x.2
 | [],r,h,x,hx=>by have h:some ([]:FamL)=some r:=h;cases h;cases hx
 | p::l,r,h,x,hx=>by
  have h:(match T.getFn p t with
   |some g=>(match zG t l with|some r=>some ((p,g)::r)|none=>none)
   |none=>none)=some r:=h
  split at h;rename_i g a;split at h;rename_i i d;cases h;rcases Gz.1 hx with e|e;rw[e];exact a;exact mS d x e;cases h;cases h
theorem mR{t:T AObj}:∀ {l:Ld}{r:List (Nat×Nat×AObj)},tR t l=some r->∀ x∈r,t.get x.2.1=some x.2.2
 | [],r,h,x,hx=>by have h:some ([]:List (Nat×Nat×AObj))=some r:=h;cases h;cases hx
 | p::l,r,h,x,hx=>by
  have h:(match t.get p.2 with
   |some o=>(match tR t l with|some r=>some ((p.1,p.2,o)::r)|none=>none)
   |none=>none)=some r:=h
  split at h;rename_i g a;split at h;rename_i i d;cases h;rcases Gz.1 hx with e|e;rw[e];exact a;exact mR d x e;cases h;cases h
theorem si{ρ:Nat->Lk}{a:FamL}{A:AH}(s:∀ x∈a,T.getFn x.1 A.t=some x.2):∀ {l:FamS}{q:Prop},Ff ρ a A.t l=some q->q->sj ρ (λ_=>False) A (l.map λx=>(x.1,x.2.1))
 | [],q,h,hq=>trivial
 | x::l,q,h,hq=>by
  have h:(match tR A.t x.2.2 with
   |some r=>(match Ff ρ a A.t l with|some q=>some (FQ ρ a x.1 x.2.1 r/\q)|none=>none)
   |none=>none)=some q:=h
  split at h;rename_i r e;split at h;rename_i D C;cases h;refine⟨λi u z=>.inl ?_,si s C hq.2⟩;rcases hq.1 i u z with⟨y,d,rfl,m,g⟩|⟨y,j,o,d,B,m,g⟩;exact⟨_,_,m,mR e y d,g⟩;refine⟨_,o,B,?_,g⟩;rw[IH (s y d)];exact m;cases h;cases h
def inLb(B:Nat):Lg->Bool
 | []=>false
 |x::l=>bif Nat.beq B x then true else inLb B l
def jS(t:T AObj):Lg->Bool
 | []=>true
 |x::l=>(match t.get x with|some o=> !o.here|none=>true)&&jS t l
theorem jR{t:T AObj}{B:Nat}{o:AObj}(d:t.get B=some o)(a:o.here=true):∀ {l:Lg},jS t l=true->inLb B l=false
 | [],_=>rfl
 |x::l,h=>by have h:((match t.get x with|some o=> !o.here|none=>true)&&jS t l)=true:=h;simp only[f']at h;show(bif Nat.beq B x then true else inLb B l)=false;cases e:Nat.beq B x;exact jR d a h.2;have e:=Gt e;subst e;have g:=h.1;rw[d]at g;simp[a]at g
structure RQ (m:Ld) (ρf:Nat->Lk) (dl:Lg) (nx:Nat):Prop where
 lt:∀ B' B,ρf B'=some B->B'<nx
 inj:∀ B1 B2 B,inLb B1 dl=false->inLb B2 dl=false->ρf B1=some B->ρf B2=some B->B1=B2
 sep:∀ x∈m,∀B',inLb B' dl=false->ρf B'≠some x.2
def ci (k : Nat)(dl:Lg)(ov:List (Nat×AObj))(m:Ld)(slots:Lg)(nx:Nat)(fm:FamS)(ρf:Nat->Lk)(K:KF):KF:=λF A=>
 match sW m F slots with
 | some r => (match kJ [] ov (rhoX m ρf) m A m with
   | some s =>(match ofL r.2 .leaf with
     | some F1=>(match ofL s.2.2 .leaf with
       | some t0=>(match iB (fm.map λx=>(x.1,x.2.1)) t0 with
         | some t1=>(match zG A.t (fm.map λx=>x.1)with
           | some gs=>(match Ff (rhoX m ρf) gs A.t fm with
             |some q=>bif ((bn nx m&&baks m)&&Nat.ble k nx)&&jS t1 dl then pc (some s.2.1) (HFs (r.1++s.1) (IdTo k (rhoX m ρf)/\RQ m ρf dl nx/\pc (some q) (K F1 ⟨t1,nx⟩)))else False
             |none=>False)
           |none=>False)
         |none=>False)
       |none=>False)
     |none=>False)
   |none=>False)
 |none=>False
theorem bg(u:GlOk E){dl:Lg}{ov:List (Nat×AObj)}{m:Ld}{nx:Nat}{fm:FamS}{ρf:Nat->Lk}:pf E A0 n (ci A0.next dl ov m slots nx fm ρf):=λK F A h=>by
 refine qD (ws:=[]) (ov:=ov) (m:=m) (slots:=slots) (nx:=nx) (fm:=fm.map λx=>(x.1,x.2.1)) (ρf:=ρf) (NL:=λ_=>False) u ?_;unfold ci at h;unfold x9;split at h;rename_i r G;rw[G];split at h;rename_i s D;simp only[D];split at h;rename_i Z N;simp only[N];split at h;rename_i X i;simp only[i];split at h;rename_i z g;simp only[g];split at h;rename_i Y t;split at h;rename_i q H;cases e:((bn nx m&&baks m)&&Nat.ble A0.next nx)&&jS z dl;rw[e]at h;exact h.elim;rw[e]at h;simp only[f']at e;have y:((bn nx m&&baks m)&&Nat.ble A0.next nx)=true:=by simp only[f'];exact e.1
 rw[y];obtain⟨I,h⟩:=h;obtain⟨L,j,a,M,J⟩:=gn h;have d:∀ B,(∃o,z.get B=some o/\o.here=true)->inLb B dl=false:=λB ⟨o,R,P⟩=>jR R P e.2;exact x3 L ⟨j,⟨λB O=>O.elim,a.lt,λU S B l1 l2=>a.inj U S B (d _ l1) (d _ l2),λx C V l=>a.sep x C V (d _ l)⟩,I,si (mS t) H M,J⟩;exact h.elim;exact h.elim;exact h.elim;exact h.elim;exact h.elim;exact h.elim;exact h.elim
def jp(E:Env)(A0:AH)(n:Nat)(K:KF):KF:=λF A=>∃ F1 A1,K F1 A1/\Turns E A0 n F A F1 A1
theorem cL:pf E A0 n (jp E A0 n):=λK F A h=>h
def NLOk(m:Ld)(ρf:Nat->Lk)(NL:Nat->Prop)(nx:Nat):Prop:=∀ B,NL B->ρf B=none/\back m B=none/\B<nx
def FQN(ρ:Nat->Lk)(NL:Nat->Prop)(gs:FamL)(p:Li)(g:Nat->Option AObj)(l:List (Nat×Nat×AObj)):Prop:=∀ i o1,g i=some o1->(∃x,x∈l/\x.1=i/\ρ (T.numF p i)=some x.2.1/\ROX ρ x.2.2 o1)∨(∃x j o,x∈gs/\ρ (T.numF p i)=some (T.numF x.1 j)/\x.2 j=some o/\ROX ρ o o1)∨(NL (T.numF p i)/\o1.nilOk=true)
def Fg(ρ:Nat->Lk)(NL:Nat->Prop)(gs:FamL)(t:T AObj)(l:FamS):Ll:=List.rec (motive:=λ_=>Ll) (some True) (λx _ ih=>match tR t x.2.2 with
 |some os=>(match ih with|some q=>some (FQN ρ NL gs x.1 x.2.1 os/\q)|none=>none)
 |none=>none) l
theorem sm{ρ:Nat->Lk}{NL:Nat->Prop}{a:FamL}{A:AH}(s:∀ x∈a,T.getFn x.1 A.t=some x.2):∀ {l:FamS}{q:Prop},Fg ρ NL a A.t l=some q->q->sj ρ NL A (l.map λx=>(x.1,x.2.1))
 | [],q,h,hq=>trivial
 | x::l,q,h,hq=>by
  have h:(match tR A.t x.2.2 with
   |some r=>(match Fg ρ NL a A.t l with|some q=>some (FQN ρ NL a x.1 x.2.1 r/\q)|none=>none)
   |none=>none)=some q:=h
  split at h;rename_i r e;split at h;rename_i G D;cases h;refine⟨λi u z=>?_,sm s D hq.2⟩;rcases hq.1 i u z with⟨y,d,rfl,m,g⟩|⟨y,j,o,d,C,m,g⟩|B;exact .inl ⟨_,_,m,mR e y d,g⟩;refine .inl ⟨_,o,C,?_,g⟩;rw[IH (s y d)];exact m;exact .inr B;cases h;cases h
def BY (k : Nat)(dl:Lg)(ov:List (Nat×AObj))(m:Ld)(slots:Lg)(nx:Nat)(fm:FamS)(ρf:Nat->Lk)(NL:Nat->Prop)(K:KF):KF:=λF A=>
 match sW m F slots with
 | some r => (match kJ [] ov (rhoX m ρf) m A m with
   | some s =>(match ofL r.2 .leaf with
     | some F1=>(match ofL s.2.2 .leaf with
       | some t0=>(match iB (fm.map λx=>(x.1,x.2.1)) t0 with
         | some t1=>(match zG A.t (fm.map λx=>x.1)with
           | some gs=>(match Fg (rhoX m ρf) NL gs A.t fm with
             |some q=>bif ((bn nx m&&baks m)&&Nat.ble k nx)&&jS t1 dl then pc (some s.2.1) (HFs (r.1++s.1) (IdTo k (rhoX m ρf)/\RQ m ρf dl nx/\NLOk m ρf NL nx/\pc (some q) (K F1 ⟨t1,nx⟩)))else False
             |none=>False)
           |none=>False)
         |none=>False)
       |none=>False)
     |none=>False)
   |none=>False)
 |none=>False
theorem ya(y:GlOk E){dl:Lg}{ov:List (Nat×AObj)}{m:Ld}{nx:Nat}{fm:FamS}{ρf:Nat->Lk}{NL:Nat->Prop}:pf E A0 n (BY A0.next dl ov m slots nx fm ρf NL):=λK F A h=>by
 refine qD (ws:=[]) (ov:=ov) (m:=m) (slots:=slots) (nx:=nx) (fm:=fm.map λx=>(x.1,x.2.1)) (ρf:=ρf) (NL:=NL) y ?_;unfold BY at h;unfold x9;split at h;rename_i r H;rw[H];split at h;rename_i s G;simp only[G];split at h;rename_i Z O;simp only[O];split at h;rename_i X i;simp only[i];split at h;rename_i C g;simp only[g];split at h;rename_i Y u;split at h;rename_i q I;cases e:((bn nx m&&baks m)&&Nat.ble A0.next nx)&&jS C dl;rw[e]at h;exact h.elim;rw[e]at h;simp only[f']at e;have z:((bn nx m&&baks m)&&Nat.ble A0.next nx)=true:=by simp only[f'];exact e.1
 rw[z];obtain⟨J,h⟩:=h;obtain⟨M,t,a,j,N,L⟩:=gn h;have d:∀ B,(∃o,C.get B=some o/\o.here=true)->inLb B dl=false:=λB ⟨o,R,P⟩=>jR R P e.2;exact x3 M ⟨t,⟨j,a.lt,λU S B l1 l2=>a.inj U S B (d _ l1) (d _ l2),λx D V l=>a.sep x D V (d _ l)⟩,J,sm (mS u) I N,L⟩;exact h.elim;exact h.elim;exact h.elim;exact h.elim;exact h.elim;exact h.elim;exact h.elim
theorem lp(t:E1.Ok)(H:E1.sym=false)(z:uj E1)(D:E1.P=E.P)(r:∀ σ,Glob E σ->Glob E1 σ)
 (h:∀ args v,p args=some v->args.all flat=true/\flat v=true/\∃ k A',iw E1 (evN E1 k) f args ⟨.leaf,0⟩=some (v,A')):Con E f (dy p):=by
 intro args A v A' m σ w j R J M;unfold dy at m;split at m;rename_i u I;simp only[osI,Gx]at m;obtain⟨rfl,rfl⟩:=m;obtain⟨q,y,k,X,C⟩:=h args u I;have i:j=args:=mV q M;rw[i];rw[sr H]at C;have V:Rel E1.P σ A w:=D▸R;have a:=qu t z (m7 t z k).1 f args _ u X C (sigR σ) w args (relR V) (λg U e=>r σ J g U e) (ir q);rw[D]at a;refine a.mono λe s K=>?_;obtain⟨Y,G,rfl,O,Z,l⟩:=K;have S:=cZ y O;subst S;have d:∀ b,b<w.heap.size->s.heap[b]? =w.heap[b]?:=λb L=>l.frame b L λB o x N=>by simp[T.get]at N
 exact⟨_,sigB σ w s,rfl,bI y _,relB R d l.size,extB R d l.size l.os l.tape l.output⟩;cases m
theorem rA{P:Program}{w:World}:∀ {laid:List (String×DataW Unit)}{j:List MemPlace},DataW.LaidVars P w laid j->∀ {n:String}{d:DataW Unit},(n,d)∈laid->
 ∃g t cs a p,P.globalNamed n=some g/\(P.globals[g]?).map (·.type)=some t/\w.var? P n=some cs/\DataW.trod (λ_=>()) P w 0 (λ_=>true) false a t cs.toList=some (d,p)
 | [],_,_,n,d,i=>by simp at i
 |(n0,d0)::r,j,h,n,d,i=>by obtain⟨g,t,cs,a,p,q,u,s,o,m,l,_⟩:=h;rcases Gz.1 i with e|i;cases e;exact⟨g,t,cs,a,p,u,s,o,m⟩;exact rA l i
theorem vQ{P:Program}{g:Nat}{t e:TypeId}{k:IntKind}{cs:Lh}{ls:Le}{p:List MemPlace}(D:P.underlying t=some (.array n e))(G:P.underlying e=some (.int k))(H:P.cellsOf e=1)(I:n=ls.length)
 (h:DataW.trod (λ_=>()) P w 0 (λ_=>true) false g t cs=some (.agg (ls.map λx=>.lit (.int k x)),p)):cs.take ls.length=ls.map (Value.int k):=by
 obtain⟨l,m,_,j,u,C,d⟩:=DataW.trod_array D h;simp only[Gx,DataW.agg.injEq]at j;obtain⟨j,_⟩:=j;have o:∀ i,i<ls.length->cs[i]? =some (.int k (ls[i]?.getD 0)):=λi a=>by
  have B:=d i (by omega);rw[Gq (by omega:i<l.length)]at B;obtain⟨z,s,q,_⟩:=DataW.trod_int G B;have r:(l.map (·.1))[i]? =some (.lit (.int k z)):=by rw[GQ,Gq (by omega:i<l.length),q];rfl
  rw[<-j,GQ,Gq a]at r;simp only[Hz,osI,DataW.lit.injEq,Lit.int.injEq,true_and]at r;rw[H,Jm]at s;have y:((cs.drop i).take 1)[0]? =some (.int k z):=by rw[s];rfl
  rw[List.getElem?_take_of_lt (by omega),GV,GP]at y;rw[y,Gq a,Iv,r]
 refine Iz λi=>?_;by_cases a:i<ls.length;rw[List.getElem?_take_of_lt a,o i a,GQ,Gq a];rfl;rw[Hs (by rw[Hd];omega),Hs (by simp;omega)]
theorem tI{P:Program}{n:String}{g:Nat}{cs:Array Value}(d:P.globalNamed n=some g)(h:w.var? P n=some cs):∃ e fz,w.heap[g]? =some (.cells cs e fz):=by unfold World.var? at h;rw[d]at h;simp only[Ii]at h;split at h;rename_i i e fz a;cases h;exact⟨e,fz,a⟩;cases h
theorem wB{laid:List (String×DataW Unit)}{n:String}{g:Nat}{t e:TypeId}{len:Nat}{k:IntKind}{ls:Le}(G:∀ j cs,E.gl j=some cs->j=g/\cs=ls.map (Value.int k))
 (s:(n,(.agg (ls.map λx=>.lit (.int k x)):DataW Unit))∈laid) (u:laidMet E.P laid w) (i:E.P.globalNamed n=some g) (h:(E.P.globals[g]?).map (·.type)=some t) (r:E.P.underlying t=some (.array len e)) (C:E.P.underlying e=some (.int k)) (D:E.P.cellsOf e=1) (d:len=ls.length) (a:0<ls.length):Glob E (sig0 w):=by intro j cs y;obtain⟨rfl,rfl⟩:=G j cs y;obtain⟨N,H,_,_⟩:=u;obtain⟨O,M,cs,l,p,o,m,L,K⟩:=rA H s;rw[i]at o;cases o;rw[h]at m;cases m;obtain⟨J,I,B⟩:=tI i L;refine⟨?_,by simpa using a,cs,J,I,B,?_⟩;rw[G0];intro x q;obtain⟨z,_,rfl⟩:=Gv.1 q;rfl;rw[Gu];exact vQ r C D d K
structure TwinE (E E1:Env):Prop where
 ok:E1.Ok
 sym:E1.sym=false
 fns:uj E1
 prog:E1.P=E.P
 glob:∀ σ,Glob E σ->Glob E1 σ
theorem xh(a:TwinE E E1)(h:iw E1 (evN E1 k) f args A=some (v,A')):CallAt E f args A v A':=by intro e w d R g i;rw[sr a.sym]at h;have:=qu a.ok a.fns (m7 a.ok a.fns k).1 f args A v A' h e w d (a.prog▸R) (a.glob e g) i;rw[a.prog]at this;exact this
def cloF(E E1:Env)(k:Nat)(f:FuncId)(args:Lh)(A1:AH)(K:KV):Prop:=match iw E1 (evN E1 k) f args A1 with
 |some r=>K r.1 r.2
 |none=>False
theorem cloF_ok(e:E.Ok)(a:GlOk E)(d:TwinE E E1){A1:AH}{ns:List (NPos×TypeId×Nat)}{zs:List NPos}{ws:Lg}{N:AH}(h:cloF E E1 k f args A1 (endF E A1 ns zs ws (λv1 i=>v1=v/\i=N))):CallAt E f args A1 v N:=by unfold cloF at h;split at h;rename_i r g;exact(xh d g).tell (qm e a h);exact h.elim
theorem W.closed(d:TwinE E E1)(s:bN E1 c=true){e:Ex}(h:evN E1 k c n F A=some (e,F',A'))(q:Q e F' A'):W E A0 n c Q F A:=by rintro o D a w ⟨i,x,l,j,u⟩ C t;rw[sr d.sym]at h;have:=(m7 d.ok d.fns k).1 c s n F A e F' A' h i a w (d.prog▸l) (d.glob i j) x C λB r g z y m=>t e F' A' B r q ⟨g,z,d.prog▸y,j.sub (Ext.sub l m),u.trans m⟩;rw[d.prog]at this;exact this
inductive CR (E E1:Env) (A0:AH) (n:Nat) (b:Code) (Q:Post):T Value->AH->Prop
 |next {k:Nat}{F F':T Value}{A A':AH}(h:evN E1 k b n F A=some (.normal,F',A')) (t:CR E E1 A0 n b Q F' A'):CR E E1 A0 n b Q F A
 |turn {F F1:T Value}{A A1:AH}(h:Turns E A0 n F A F1 A1) (t:CR E E1 A0 n b Q F1 A1):CR E E1 A0 n b Q F A
 |last {F:T Value}{A:AH}(h:W E A0 n b (Then (λ_ _=>False) Q) F A):CR E E1 A0 n b Q F A
theorem W.loopC(z:TwinE E E1)(B:bN E1 b=true)(h:CR E E1 A0 n b Q F A):W E A0 n (.loop b) Q F A:=by
 have m:∃ k,∀d j a w,At E d A0 j n F A a w->∀ i:Exit->Act->World->Prop,(∀r F' A' u s,Q r F' A'->At E d A0 j n F' A' u s->i r.of u s)->Code.rounds E.P b i k a w:=by
  induction h with
  | next h t o=>
   obtain⟨k,o⟩:=o;refine⟨k+1,fun d j a w e i l=>?_⟩;show b.wp E.P (Exit.then (Code.rounds E.P b i k) i) a w;refine W.closed z (A0:=A0) B (Q:=Then (λx y=>x=_/\y=_) (λ_ _ _=>False)) h ⟨rfl,rfl⟩ d j a w e _ λr x y u s q g=>?_;cases r with
   |normal=>obtain⟨rfl,rfl⟩:x=_/\y=_:=q;exact o d j u s g i l
   |exit id=>exact q.elim
   |ret=>exact q.elim
  |turn h t o=>obtain⟨k,o⟩:=o;exact⟨k,fun d j a w e i l=>o d j a w (h d j a w e) i l⟩
  |last h=>
  refine⟨1,fun d j a w e i l=>?_⟩;show b.wp E.P (Exit.then (Code.rounds E.P b i 0) i) a w;refine h d j a w e _ λr x y u s q g=>?_;cases r with
  |normal=>exact q.elim
  |exit id=>exact l _ _ _ _ _ q g
  |ret=>exact l _ _ _ _ _ q g
 obtain⟨k,m⟩:=m;exact fun d j a w e i l=>Jx k (m d j a w e i l)
def evRd(E1:Env)(k:Nat)(b:Code)(n:Nat)(m:Nat):T Value->AH->Option (T Value×AH):=
 Nat.rec (motive:=λ_=>T Value->AH->Option (T Value×AH)) (λF A=>some (F,A)) (λ_ ih F A=>match evN E1 k b n F A with
  |some (.normal,F',A')=>ih F' A'
  |_=>none) m
theorem CR.rounds:∀ (m:Nat) {F F':T Value}{A A':AH},evRd E1 k b n m F A=some (F',A')->CR E E1 A0 n b Q F' A'->CR E E1 A0 n b Q F A
 |0,F,F',A,A',h,t=>by have h:some (F,A)=some (F',A'):=h;cases h;exact t
 | m+1,F,F',A,A',h,t=>by
  have h:(match evN E1 k b n F A with
   |some (.normal,F',A')=>evRd E1 k b n m F' A'
   |_=>none)=some (F',A'):=h
  split at h;rename_i d e a;exact .next a (CR.rounds m h t)
  cases h
def cloR(E E1:Env)(k:Nat)(b:Code)(n:Nat)(A0:AH)(m:Nat)(slots:Lg)(F:T Value)(A:AH)(K:KF):Prop:=match evRd E1 k b n m F A with
 |some r=>eM A0.next E [] [] [] slots r.1 r.2 K
 |none=>False
theorem CR.clo(d:E.Ok)(a:GlOk E){m:Nat}(h:cloR E E1 k b n A0 m slots F A (λF1 A1=>F1=F'/\A1=A'))(t:CR E E1 A0 n b Q F' A'):CR E E1 A0 n b Q F A:=by unfold cloR at h;split at h;rename_i r g;obtain⟨F1,A1,⟨rfl,rfl⟩,e⟩:=cS d a (n:=n) h;exact CR.rounds m g (.turn e t);exact h.elim
def cloC(E E1:Env)(k:Nat)(c:Code)(n:Nat)(A0:AH)(slots:Lg)(F:T Value)(A:AH)(K:KF):Prop:=match evN E1 k c n F A with
 |some (.normal,F',A')=>eM A0.next E [] [] [] slots F' A' K
 |_=>False
def p7 (A:AH):Nat->Value->Value->Bool
 |0,_,_=>false
 | k + 1,v,v2=>match v2 with
   | .func (.yield sz) ⟨els⟩ ⟨[]⟩=>(match v with
     | .slice none 0 0=>els.isEmpty
     | .slice (some ⟨B,i,none⟩) n q=>(match look A B with
       |some c=>(Nat.ble (n*sz) (c.drop i).length&&Nat.ble n q)&&(Nat.beq els.length n&&(els.all (λx=>Nat.beq x.cells.size sz)&&veqs (p7 A k) ((c.drop i).take (n*sz)) (an els)))
       |none=>false)
     |_=>false)
   | .agg ⟨cs2⟩=>(match v with| .agg ⟨cs⟩=>veqs (p7 A k) cs cs2|_=>false)
   | .tuple ⟨cs2⟩=>(match v with| .tuple ⟨cs⟩=>veqs (p7 A k) cs cs2|_=>false)
   |v2=>scal v2&&veq 8 v v2
theorem dP{A:AH}{f:Value->Value->Bool}(g:∀ v e,f v e=true->Frz A v e):∀ {l l2:Lh},veqs f l l2=true->FrzL A l l2
 | [],[],_=>.nil
 | a::l,b::l2,h=>by
  have h:(bif f a b then veqs f l l2 else false)=true:=h;cases d:f a b with
  |true=>rw[d]at h;exact .cons (g a b d) (dP g h)
  |false=>rw[d]at h;cases h
 | [],_::_,h=>by cases h
 |_::_,[],h=>by cases h
theorem jb{A:AH}:∀ (k:Nat) (v a:Value),p7 A k v a=true->Frz A v a
 |0,_,_,h=>by cases h
 | k+1,v,a,h=>by
  unfold p7 at h;split at h;rename_i e d;split at h;have:d=[]:=by simpa using h
  subst this;exact .nils e;rename_i B i n q;split at h;rename_i c j;simp only[f',GI,GG,G0]at h;obtain⟨⟨s,r⟩,o,m,l⟩:=h;exact Frz.slice j s r (dP (jb k) l) rfl (λx g=>m x g) o;cases h;cases h;split at h;exact .agg (dP (jb k) h);cases h;split at h;exact .tuple (dP (jb k) h);cases h;rw[f']at h;rw[jj _ _ _ h.2];exact .same (.scal h.1)
def cq:Nat->Code->Code
 |0,c=>c
 |m+1,c=>match c with| .seq _ b=>cq m b|c=>c
def zN(E1:Env)(k n:Nat):Nat->Code->T Value->AH->Option (T Value×AH)
 |0,_,F,A=>some (F,A)
 | m +1,c,F,A=>match c with
   | .seq a b=>bif bN E1 a then(match evN E1 k a n F A with
     |some (.normal,F',A')=>zN E1 k n m b F' A'
     |_=>none)else none
   |_=>none
theorem sq{E E1:Env}(e:TwinE E E1){A0:AH}{k n:Nat}{Q:Post}:∀ (m:Nat) {c:Code}{F F':T Value}{A A':AH},zN E1 k n m c F A=some (F',A')->W E A0 n (cq m c) Q F' A'->W E A0 n c Q F A
 |0,c,F,F',A,A',h,t=>by have h:some (F,A)=some (F',A'):=h;cases h;exact t
 |m+1,c,F,F',A,A',h,t=>by unfold zN at h;split at h;rename_i a b;cases d:bN E1 a;rw[d]at h;cases h;rw[d]at h;simp only[D']at h;split at h;rename_i i j g;exact W.seq (W.closed e d g (sq e m h t));cases h;cases h
def cloV(E E1:Env)(k:Nat)(c:Code)(m n:Nat)(A0:AH)(slots:Lg)(F:T Value)(A:AH)(K:KF):Prop:=match zN E1 k n m c F A with
 |some r=>eM A0.next E [] [] [] slots r.1 r.2 K
 |none=>False
theorem na(e:E.Ok)(a:GlOk E)(d:TwinE E E1){m:Nat}(h:cloV E E1 k c m n A0 slots F A (λF1 A1=>F1=F'/\A1=A'))(t:W E A0 n (cq m c) Q F' A'):W E A0 n c Q F A:=by unfold cloV at h;split at h;rename_i r i;obtain⟨F1,A1,⟨rfl,rfl⟩,g⟩:=cS e a (n:=n) h;exact sq d m i (W.turns g t);exact h.elim
def cloX(X:SX)(d:Nat)(c:Code)(n:Nat)(A0:AH)(slots:Lg)(F:T Value)(A:AH)(K:KF):Prop:=match c with
 | .seq a _=>sx X d A0 n a F A (Then (λF' A'=>eM A0.next X.E [] [] [] slots F' A' K) (λ_ _ _=>False))
 |_=>False
def cloE(E E1:Env)(k:Nat)(b:Code)(n i:Nat)(A0:AH)(slots:Lg)(F:T Value)(A:AH)(K:KF):Prop:=match evN E1 k b n F A with
 |some (.exit id,F',A')=>bif Nat.beq id i then eM A0.next E [] [] [] slots F' A' K else False
 |_=>False
theorem CR.exit(g:E.Ok)(d:GlOk E)(e:TwinE E E1){i:Nat}{rest:Code}(m:bN E1 b=true)(h:cloE E E1 k b n i A0 slots F A (λF1 A1=>F1=F'/\A1=A'))(t:W E A0 n rest Q F' A'):CR E E1 A0 n b (Blk i (Then (W E A0 n rest Q) Q)) F A:=by unfold cloE at h;split at h;rename_i id o q l;cases a:Nat.beq id i;rw[a]at h;exact h.elim;rw[a]at h;obtain rfl:=Gt a;obtain⟨F1,A1,⟨rfl,rfl⟩,j⟩:=cS g d (n:=n) h;exact .last (W.closed e m l (show Then (λ_ _=>False) (Blk id (Then (W E A0 n rest Q) Q)) (.exit id) o q from Blk.out (Then.normal (W.turns j t))));exact h.elim
theorem W.loopPiece(e:E.Ok)(a:GlOk E)(d:TwinE E E1){i:Nat}{r rest:Code}(l:c=.seq (.seq r (.block i (.loop b))) rest)(j:bN E1 r=true)(m:bN E1 b=true)(h:cloC E E1 k r n A0 slots F A (λF1 A1=>F1=F'/\A1=A'))(t:CR E E1 A0 n b (Blk i (Then (W E A0 n rest Q) Q)) F' A'):W E A0 n c Q F A:=by rw[l];unfold cloC at h;split at h;rename_i q s o;obtain⟨F1,A1,⟨rfl,rfl⟩,g⟩:=cS e a (n:=n) h;exact W.seq (W.seq (W.closed d j o (Then.normal (W.block (W.turns g (W.loopC d m t))))));exact h.elim
def cloK(X:SX)(d:Nat)(c:Code)(fn:Func)(A0:AH)(F:T Value)(A:AH)(K:KV):Prop:=sx X d A0 fn.ntmps c F A (finK X.E fn.results.toList K)
theorem xi{X:SX}(a:X.Ok){d:Nat}{fn:Func}{ns:List (NPos×TypeId×Nat)}{zs:List NPos}{ws:Lg}{N:AH}(h:cloK X d c fn A0 F A (endF X.E A0 ns zs ws (λv1 l=>v1=v/\l=N))):W X.E A0 fn.ntmps c (Fin X.E fn (EndF X.E A0 v N)) F A:=
 (jt a h).mono λm F' A' q=>by obtain⟨j,e,i,g⟩:=ga q;exact⟨j,e,i,qm a.ok a.gl g⟩
theorem wF{P:Program}{σ σ':Sig}{A:AH}{w:World}(R:Rel P σ A w)(e:∀ b o,σ.ro b=some o->σ'.ro b=some o)
 (d:∀ B o x,A.t.get B=some o->o.here=true->σ B=some x->σ'.ro x.1=w.heap[x.1]?):∀ {l l2 l':Lh},FrzL A l l2->VRs σ l l'->VRs σ' l2 l'
 |_,_,_,.nil,.nil=>.nil
 |_,_,_,.cons h t,.cons a b=>.cons (h.ok R e d _ a) (wF R e d t b)
def Am(v:Value):Prop:=∀ (σ:Sig) (v':Value),VR σ v v'->v'=v/\∀ σ':Sig,VR σ' v v
theorem pr{l:Lh}(h:l.all flat=true):Am (.tuple ⟨l⟩):=fun g i d=>by
 cases d with
 |tuple e=>rw[mV h e];exact⟨rfl,fun a=>.tuple (ir h)⟩
theorem zI(h:Con E f (dy p)){a:Lh}(y:p a=some v)(s:Am v)(C:FrzL A args a):CallAt E f args A v A:=by
 intro l w i R z G;let σ2:Sig:=⟨λ_=>none,λb=>w.heap[b]?,λ_=>False⟩;have K:Rel E.P σ2 ⟨.leaf,0⟩ w:=⟨λB o h=>by simp[T.get]at h,λB S o N x L h=>by simp[T.get]at h,(λB x h=>by cases h),λB h=>rfl,λb o h=>h,λB o x h=>by simp[T.get]at h,λ_ h=>h.elim⟩;have m:Glob E σ2:=Glob.sub (σ:=sigR l) (λg J h=>z g J h) ⟨(λB x h=>by cases h),λb o h=>R.ro b o h⟩;refine(h a ⟨.leaf,0⟩ v ⟨.leaf,0⟩ (by simp[dy,y]) σ2 w i K m (wF R (λb o q=>R.ro b o q) (λB o x _ _ _=>rfl) C G)).mono λe r D=>?_;obtain⟨M,u,rfl,t,O,j⟩:=D;have d:∀ b,b<w.heap.size->r.heap[b]? =w.heap[b]?:=λb q=>j.frame b q λB o x H=>by simp[T.get]at H
 have I:=(s _ _ t).1;subst I;exact⟨_,sigB l w r,rfl,(s _ _ t).2 _,relB R d j.size,extB R d j.size j.os j.tape j.output⟩
def fzR(args2:Lh)(v:Value):RunF:=λargs A=>bif veqs (p7 A 16) args args2 then some (none,v,A)else none
theorem fzR_ok(h:Con E f (dy p)){a:Lh}(i:p a=some v)(g:Am v):∀ args A q u A',fzR a v args A=some (q,u,A')->PH q->CallAt E f args A u A':=by intro args A q u A' d _;unfold fzR at d;cases e:veqs (p7 A 16) args a;rw[e]at d;cases d;rw[e]at d;simp only[D',osI,Gx]at d;obtain⟨rfl,rfl,rfl⟩:=d;exact zI h i g (dP (jb 16) e)
def litR(args0:Lh)(objs0:List AObj)(v:Value)(objs1:List AObj):Lh->List AObj->Option (Ll×Value×List AObj):=λargs objs=>some (some (args=args0/\objs=objs0),v,objs1)
theorem pI{d:Lh}{a e:List AObj}(h:CallAt E f d (aW a) v (aW e)):∀ args A p u A',frmR (λ_=>none) (litR d a v e) args A=some (p,u,A')->PH p->CallAt E f args A u A':=wH λargs g p u i j l=>by unfold litR at j;cases j;obtain⟨rfl,rfl⟩:args=d/\g=a:=l;exact h
end
end Go.AM
