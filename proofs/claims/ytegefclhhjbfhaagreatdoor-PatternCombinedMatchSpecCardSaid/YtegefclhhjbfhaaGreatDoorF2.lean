/- A part of the proof. -/
import Derived.Test.YtegefclhhjbfhaaGreatDoorF
import Derived.OpenShut
import Derived.MakeChecks
set_option linter.unusedVariables false
set_option linter.unusedSimpArgs false
set_option linter.unusedSectionVars false
namespace Go.AM
noncomputable section
variable {A A0:AH}{E:Env}{p q:Li}{B i n x:Nat}{g:Nat->Lk}{σ:Sig}{F:T Value}
def yR(F:T Value)(l:Lg):List (Nat×Value):=List.rec (motive:=λ_=>List (Nat×Value)) [] (λt _ ih=>match F.get t with|some v=>(t,v)::ih|none=>ih) l
theorem jZ{F:T Value}:∀ {l:Lg}{t:Nat}{v:Value},(t,v)∈yR F l->F.get t=some v
 | [],t,v,h=>by cases h
 |x::l,t,v,h=>by have h:(t,v)∈(match F.get x with|some v=>(x,v)::yR F l|none=>yR F l):=h;split at h;rename_i u a;rcases HE.1 h with e|e;cases e;exact a;exact jZ e;exact jZ h
theorem Turns.pick{F1:T Value}(l:Lg)(h:ofL (yR F l) .leaf=some F1):Turns E A0 n F A F1 A:=by intro e j a w ⟨σ,c,R,f,X⟩;refine⟨σ,⟨c.size,λt v b=>?_,c.defers⟩,R,f,X⟩;have b:F1.get t=some v:=b;rcases dD h b with d|d;exact c.val t v (jZ d);simp[T.get]at d
def rhoP(p:Li)(f:Nat->Lk)(B:Nat):Lk:=bif Nat.beq (T.numF p (T.unF p B)) B then f (T.unF p B)else none
theorem ir(p:Li)(f:Nat->Lk)(i:Nat):rhoP p f (T.numF p i)=f i:=by grind [rhoP,T.unF_numF,Hy]
theorem dM{f:Nat->Lk}(h:rhoP p f B=some x):∃ i,B=T.numF p i/\f i=some x:=by grind [rhoP,Nat.beq,T.numF,T.unF,Ho]
theorem Db{f:Nat->Lk}(h:∀ i,B≠T.numF p i):rhoP p f B=none:=by
 cases a:rhoP p f B with
 |none=>rfl
 |some x=>grind [dM,absurd]
def rho2(p:Li)(f:Nat->Lk)(q:Li)(g:Nat->Lk)(B:Nat):Lk:=match rhoP p f B with
 |some x=>some x
 |none=>rhoP q g B
theorem nR{f:Nat->Lk}(h:rho2 p f q g B=some x):(∃i,B=T.numF p i/\f i=some x)∨(∃i,B=T.numF q i/\g i=some x):=by grind [rho2,dM]
theorem qT{f:Nat->Lk}(h:f i=some x):rho2 p f q g (T.numF p i)=some x:=by unfold rho2;rw[ir,h]
theorem rho2_q{f:Nat->Lk}(a:∀ i j,T.numF p i≠T.numF q j):rho2 p f q g (T.numF q i)=g i:=by grind [rho2,Db,ir]
theorem VR.same{B' m:Nat}{v':Value}(c:∀ x,σ B=some x->σ B'=some x)(h:VR σ (.slice (some ⟨B,0,none⟩) n m) v'):VR σ (.slice (some ⟨B',0,none⟩) n m) v':=by
 cases h with
 |slice _ _ _ h k=>exact .slice _ _ _ (c _ h) k
 |sliceU _ h b=>exact .sliceU _ (c _ h) b
 |sliceV _ _ _ h b=>exact .sliceV _ _ _ (c _ h) b
 |sliceE=>exact .sliceE _ _ _
 |gs0 _ _ _ a d=>exact .gs0 _ _ _ a d
 |gs e o r f m h b l j d=>exact .gs e _ _ f _ (c _ h) b l j d
theorem Turns.focC{g:Nat->Option AObj}{B0 j k m:Nat}{els tl l r:Lh}{e0 e:TypeId}{t1 t2 G:T AObj}(H:T.getFn p A.t=some g)(v:g j=some (.gro l r e))(O:T.numF p j<A.next)(S:¬ T.InF p A.next)
 (D:A.t.get B0=some (.gro els tl e0)) (u:¬ T.InF p B0) (f:B0≠A.next) (P:∀ x∈els++tl,fU x) (h:(els++tl)[i]? =some (.slice (some ⟨T.numF p j,0,none⟩) k m))
 (I:T.setFn p A.t (λx=>bif Nat.beq x j then none else g x)=some t1) (Y:T.set FU t1 A.next (.gro l r e)=some t2) (V:T.set FU t2 B0 (.gro ((els++tl).set i (.slice (some ⟨A.next,0,none⟩) k m)) [] e0)=some G):Turns E A0 n F A F ⟨G,A.next+1⟩:=by
 intro J w0 a w ⟨σ,U,R,y,X⟩;have d:A.t.get (T.numF p j)=some (.gro l r e):=by rw[I8 H];exact v
 have s:∀ C,t2.get C=if C=A.next then some (.gro l r e)else if C=T.numF p j then none else A.t.get C:=λC=>by
  rw[H6 Y];by_cases o:C=A.next
  rw[Ht o,Ht o];rw[Hm o,Hm o];by_cases h:T.InF p C;obtain⟨x,rfl⟩:=h;rw[JK I,I8 H];by_cases Z:x=j;simp_all;have:Nat.beq x j=false:=by grind [Nat.beq,absurd,Ho]
  rw[this,Hm (λc=>Z (T.numF_inj p c))];rfl;rw[JB I C h,Hm (λc=>h ⟨j,c⟩)]
 have M:σ A.next=none:=R.fresh _ (Hw _)
 have b:=lY (N:=T.numF p j) M;have R1:=Rel.focus R d O s
 have X1:=Ext.focus (σ:=σ) (w:=w) d s
 have z:t2.get B0=some (.gro els tl e0):=by rw[s,Hm f,Hm (λc=>u ⟨j,c⟩)];exact D
 have Q:T.numF p j≠A.next:=λc=>S ⟨j,c.symm⟩
 obtain⟨R2,X2⟩:=jU R1 z P (λx hx=>by
  grind [Iz,gb]) (by rw[Hz]) (λq x x2 q1 K v' L=>by
  rw[I4]at K;grind [osI,VR.same,eZ,ci]) V
 exact⟨_,U.mono b,R2,y.sub b,X.trans (X1.trans X2)⟩
theorem u6{P:Program}{w:World}(R:Rel P σ A w){c:Nat}{es es2:Lc}{t:T AObj}(e:A.t.get B=some (.map es c))(d:∀ {l},ERs σ es l->ERs σ es2 l)(b:T.set FU A.t B (.map es2 c)=some t):Rel P σ ⟨t,A.next⟩ w/\Ext σ A w σ ⟨t,A.next⟩ w:=
 Rel.retell (o2:=.map es2 c) R e b rfl rfl rfl (λo k m h=>by obtain⟨a,j,f⟩:=h;exact⟨a,j,d f⟩)
inductive FE (N k:Nat):Lc->Lc->Prop
 |nil:FE N k [] []
 |old {x:Value×Value×Nat}{l l2:Lc}(t:FE N k l l2):FE N k (x::l) (x::l2)
 |new {key:Value}{n m b:Nat}{l l2:Lc}(t:FE N k l l2):FE N k ((key,.slice (some ⟨N,0,none⟩) n m,b)::l) ((key,.slice (some ⟨k,0,none⟩) n m,b)::l2)
theorem FE.ers{N k:Nat}(a:∀ x,σ N=some x->σ k=some x):∀ {es es2:Lc}{l:List MapEntry},FE N k es es2->ERs σ es l->ERs σ es2 l
 |_,_,_,.nil,h=>h
 |_,_,_,.old t,.cons he ht=>.cons he (t.ers a ht)
 |_,_,_,.new t,.cons he ht=>.cons ⟨he.1,VR.same a he.2.1,he.2.2⟩ (t.ers a ht)
theorem Turns.focM{g:Nat->Option AObj}{B0 j c:Nat}{es es2:Lc}{l r:Lh}{e:TypeId}{t1 t2 u:T AObj}(z:T.getFn p A.t=some g)(m:g j=some (.gro l r e))(L:T.numF p j<A.next)(O:¬ T.InF p A.next)
 (S:A.t.get B0=some (.map es c)) (I:¬ T.InF p B0) (D:B0≠A.next) (Q:FE (T.numF p j) A.next es es2)
 (G:T.setFn p A.t (λx=>bif Nat.beq x j then none else g x)=some t1) (V:T.set FU t1 A.next (.gro l r e)=some t2) (U:T.set FU t2 B0 (.map es2 c)=some u):Turns E A0 n F A F ⟨u,A.next+1⟩:=by
 intro H w0 a w ⟨σ,P,R,o,X⟩;have d:A.t.get (T.numF p j)=some (.gro l r e):=by rw[I8 z];exact m
 have v:∀ C,t2.get C=if C=A.next then some (.gro l r e)else if C=T.numF p j then none else A.t.get C:=λC=>by
  rw[H6 V];by_cases h:C=A.next
  rw[Ht h,Ht h];rw[Hm h,Hm h];by_cases k:T.InF p C;obtain⟨x,rfl⟩:=k;rw[JK G,I8 z];by_cases Y:x=j;simp_all;have:Nat.beq x j=false:=by grind [Nat.beq,absurd,Ho]
  rw[this,Hm (λf=>Y (T.numF_inj p f))];rfl;rw[JB G C k,Hm (λf=>k ⟨j,f⟩)]
 have K:σ A.next=none:=R.fresh _ (Hw _)
 have b:=lY (N:=T.numF p j) K;have R1:=Rel.focus R d L v
 have X1:=Ext.focus (σ:=σ) (w:=w) d v
 have s:t2.get B0=some (.map es c):=by grind
 have M:T.numF p j≠A.next:=λf=>O ⟨j,f.symm⟩
 obtain⟨R2,Z⟩:=u6 R1 s (λJ=>Q.ers (λy hy=>by grind [eZ,ci]) J) U;exact⟨_,P.mono b,R2,o.sub b,X.trans (X1.trans Z)⟩
end
end Go.AM
namespace Go.MK
open Go Go.AM
noncomputable section
theorem _root_.Go.J1:type_of% @List.eraseIdx_cons_succ:=@List.eraseIdx_cons_succ
theorem _root_.Go.Ij:type_of% @List.nodup_cons:=@List.nodup_cons
theorem _root_.Go.J2:type_of% @List.getElem?_cons_zero:=@List.getElem?_cons_zero
theorem _root_.Go.JV:type_of% @List.set_cons_zero:=@List.set_cons_zero
theorem _root_.Go.HD:type_of% @List.map_append:=@List.map_append
theorem _root_.Go.Je:type_of% @List.nodup_append:=@List.nodup_append
abbrev _root_.Go.IQ:=@List.map_set
theorem _root_.Go.HU:type_of% @List.getElem?_map:=@List.getElem?_map
variable {K V:Type}[DecidableEq K]
def bidx:List (K×V×Nat)->K->Nat->Option (Nat×V×Nat)
 | [],_,_=>none
 |x::m,k,i=>if x.1=k then some (i,x.2)else bidx m k (i+1)
variable {E:Env}{k:K}{kv:K->Value}{et kt t:TypeId}{z:Value}
def bget(m:List (K×V×Nat))(k:K):Option V:=(bidx m k 0).map λx=>x.2.1
def bset(m:List (K×V×Nat))(c:Nat)(k:K)(v:V):List (K×V×Nat)×Nat:=match bidx m k 0 with
 |none=>(m++[(k,v,c)],c+1)
 |some (j,u)=>(m.set j (k,v,u.2),c)
def bdel(m:List (K×V×Nat))(k:K):List (K×V×Nat):=match bidx m k 0 with
 |none=>m
 |some (j,_)=>m.eraseIdx j
def eI(a:K->Value)(b:V->Value)(m:List (K×V×Nat)):Lc:=m.map λx=>(a x.1,b x.2.1,x.2.2)
theorem Bf{a b :Type}(f: a -> b):∀ (l:List a) (i:Nat),(l.eraseIdx i).map f=(l.map f).eraseIdx i
 | [],i=>rfl
 |x::l,0=>rfl
 |x::l,i+1=>by rw[J1,Ia,Ia,J1,Bf f l i]
theorem ic{m:List (K×V×Nat)}:∀ {i j:Nat}{u:V×Nat},bidx m k i=some (j,u)->∃ q,j=i+q/\m[q]? =some (k,u):=by
 induction m with
 |nil=>intro i j u h;cases h
 |cons x m a=>intro i j u h;unfold bidx at h;split at h;rename_i b;cases h;exact⟨0,rfl,by simp[<-b]⟩;obtain⟨q,d,c⟩:=a h;exact⟨q+1,by omega,by simpa using c⟩
theorem um(m:List (K×V×Nat))(k:K):∀ i,bidx m k i=(bidx m k 0).map λx=>(i+x.1,x.2):=by
 induction m with
 |nil=>intro i;rfl
 |cons x m a=>intro i;unfold bidx;split;rfl;rw[a (i+1),a (0+1),Option.map_map];congr 1;funext y;simp;omega
theorem dT(x:K×V×Nat)(m:List (K×V×Nat))(k:K):bget (x::m) k=if x.1=k then some x.2.1 else bget m k:=by unfold bget;show(Option.map _ (if x.1=k then some (0,x.2)else bidx m k (0+1)))=_;split;rfl;rw[um m k,Option.map_map];rfl
theorem bget_none{m:List (K×V×Nat)}:bget m k=none↔¬ k∈m.map (·.1):=by
 induction m with
 |nil=>simp[bget,bidx]
 |cons x m a=>grind [dT,Ia,HE]
theorem Ao(m:List (K×V×Nat))(x:K×V×Nat)(k:K):bget (m++[x]) k=match bget m k with|some v=>some v|none=>if x.1=k then some x.2.1 else none:=by
 induction m with
 |nil=>rw[List.nil_append,dT];rfl
 |cons y m a=>grind [IY,dT]
theorem Am{m:List (K×V×Nat)}{c:Nat}{a:K}{v:V}(e:(m.map (·.1)).Nodup):bget (bset m c k v).1 a=if k=a then some v else bget m a:=by
 unfold bset;cases b:bidx m k 0 with
 |none=>grind [bget,Ao]
 |some x=>
 obtain⟨j,u⟩:=x;obtain⟨q,d,f⟩:=ic b;have g:j=q:=by omega
 subst g;show bget (m.set j (k,v,u.2)) a=_;clear b d;induction m generalizing j with
 |nil=>simp at f
 |cons y m h=>
 rw[Ia,Ij]at e;cases j with
 |zero=>grind [J2,osI,JV,dT]
 |succ j=>grind [Jf,dT,Hn,HR]
theorem xR{m:List (K×V×Nat)}{c:Nat}{v:V}(b:(m.map (·.1)).Nodup):((bset m c k v).1.map (·.1)).Nodup:=by
 unfold bset;cases a:bidx m k 0 with
 | none=>
  have h:bget m k=none:=by unfold bget;rw[a];rfl
  grind [bget_none,HD,Je]
 |some x=>
 obtain⟨j,u⟩:=x;obtain⟨q,f,d⟩:=ic a;have e:j=q:=by omega
 subst e;show((m.set j (k,v,u.2)).map (·.1)).Nodup;rw[IQ];have g:=(Hx.1 d).1;have:(m.map (·.1)).set j k=m.map (·.1):=by refine I3 λi=>?_;grind
 rw[this];exact b
theorem Ap{m:List (K×V×Nat)}{a:K}(g:(m.map (·.1)).Nodup):bget (bdel m k) a=if k=a then none else bget m a:=by
 unfold bdel;cases b:bidx m k 0 with
 |none=>grind [bget]
 |some x=>
 obtain⟨j,u⟩:=x;obtain⟨q,c,d⟩:=ic b;have e:j=q:=by omega
 subst e;show bget (m.eraseIdx j) a=_;clear b c;induction m generalizing j with
 |nil=>simp at d
 |cons y m f=>grind [Ia,Ij,J2,osI,List.eraseIdx_cons_zero,dT,bget_none,Jf,J1,Hn,HR]
theorem xX{m:List (K×V×Nat)}(a:(m.map (·.1)).Nodup):((bdel m k).map (·.1)).Nodup:=by grind [bdel,bidx,List.eraseIdx_sublist]
theorem kp{kind:TypeDesc}{kv:K->Value}{c:V->Value}(h:∀ a b,jS kind (kv a) (kv b)=some (decide (a=b)))(k:K):∀ (m:List (K×V×Nat)) (i:Nat),
 eU kind (kv k) (eI kv c m) i=some ((bidx m k i).map λx=>(x.1,c x.2.1))
 | [],i=>rfl
 |x::m,i=>by show eU kind (kv k) ((kv x.1,c x.2.1,x.2.2)::eI kv c m) i=_;simp only[eU,h];by_cases e:x.1=k;simp[bidx,e];have d:¬ k=x.1:=λh=>e h.symm;simp only[d,IV,bidx,Hm e];exact kp h k m _
theorem gY{E:Env}{kt:TypeId}{kv:K->Value}{c:V->Value}(h:∀ a b,oD E kt (kv a) (kv b)=some (decide (a=b)))(k:K):∀ (m:List (K×V×Nat)) (i:Nat),
 cZ E kt (kv k) (eI kv c m) i=some ((bidx m k i).map λx=>(x.1,c x.2.1))
 | [],i=>rfl
 |x::m,i=>by show cZ E kt (kv k) ((kv x.1,c x.2.1,x.2.2)::eI kv c m) i=_;simp only[cZ,h];by_cases e:x.1=k;simp[bidx,e];have d:¬ k=x.1:=λh=>e h.symm;simp only[d,IV,bidx,Hm e];exact gY h k m _
theorem gt(h:KeyOk E t kt et kv z)(b:V->Value)(k:K)(m:List (K×V×Nat)):
 iH E kt (kv k) (eI kv b m)=some ((bidx m k 0).map λx=>(x.1,b x.2.1)):=by
 obtain⟨a,d,e⟩:=h.eq;unfold iH;rw[d];simp only;rcases e with c|⟨c,f⟩;rw[kp c];cases m with
 |nil=>rfl
 |cons x m=>
 have:eU a (kv k) (eI kv b (x::m)) 0=none:=by show eU a (kv k) ((kv x.1,b x.2.1,x.2.2)::eI kv b m) 0=_;simp only[eU,c]
 grind [gY]
theorem iz(h:KeyOk E t kt et kv z)(a:V->Value)(k:K)(m:List (K×V×Nat)):
 bY E t (eI kv a m) (kv k)=some (match bget m k with|some v=>(a v,true)|none=>(z,false)):=by
 obtain⟨i,d,c,b⟩:=h.zero;unfold bY bget;rw[h.und];simp only[h.flat,h.ok,IH,C',gt h a k m];cases bidx m k 0 with
 |none=>grind
 |some x=>rfl
theorem jA(h:KeyOk E t kt et kv z)(a:V->Value)(k:K)(v:V)(m:List (K×V×Nat))(c:Nat):
 aR E t (eI kv a m) c (kv k) (a v)=some (eI kv a (bset m c k v).1,(bset m c k v).2):=by
 unfold aR bset;rw[h.und];simp only[h.flat,h.ok,IH,C',gt h a k m];cases e:bidx m k 0 with
 |none=>grind [eI,HD]
 |some x=>
 obtain⟨j,u⟩:=x;obtain⟨q,f,g⟩:=ic e;have b:j=q:=by omega
 subst b;have d:nth (eI kv a m) j=some (kv k,a u.1,u.2):=by rw[aP];grind [eI,HU]
 simp only[Ik,d,h.bits,C'];unfold eI;rw[IQ]
theorem xr(h:KeyOk E t kt et kv z)(a:V->Value)(k:K)(m:List (K×V×Nat)):
 delE E t (eI kv a m) (kv k)=some (eI kv a (bdel m k)):=by unfold delE bdel;rw[h.und];simp only[h.flat,h.ok,C',gt h a k m];grind [bidx,Ik,eI,Bf]
end
end Go.MK
namespace Go.AM
noncomputable section
variable {A A' A0:AH}{b c:Code}{E E1:Env}{slots:Lg}{args:Lh}{p:Lh->Lj}{k n:Nat}{Q:Post}{F F':T Value}{v:Value}{w:World}
def bJ(e X:SX)(d n:Nat)(a:AH)(c:Code)(p:Lg)(K:KX)(b:KF)(F:T Value)(A:AH):Prop:=sx e d a n (an (subC p c)) F A (stepR X d n a c p K b)
def o8(E:Env)(A0:AH)(n:Nat)(a:KF->KF):Prop:=∀ K F A,a K F A->∃ F1 A1,K F1 A1/\Turns E A0 n F A F1 A1
theorem LAtZ.stepT{X:SX}{d:Nat}{p:Lg}{K:KX}(o:iV (subC p c)=true)(I:Nat->T Value->AH->Prop)
 (a:∀ k F A,I k F A->∃ (f:SX) (tl:KF->KF),f.Ok/\f.E=X.E/\o8 X.E A0 n tl/\bJ f X d n A0 c p K (tl λF1 A1=>∃ e,e<k/\∃ g i,I e g i/\Turns X.E A0 n F1 A1 g i) F A) {F1:T Value}{A1:AH}(h:I k F1 A1) (l:Turns X.E A0 n F A F1 A1):LAtZ X d n A0 c p K F A:=by
 refine .mk ?_;rw[j9 o];refine W.loopT I (λk F A t=>?_) h l;obtain⟨f,tl,r,u,s,m⟩:=a k F A t;have j:=ik r m;rw[u]at j;refine j.mono λC F' A' q=>?_;cases C with
 |normal=>obtain⟨F1,A1,⟨e,B,g,i,z,y⟩,x⟩:=s _ _ _ q;exact⟨e,g,i,B,z,x.trans y⟩
 |exit id=>exact q
 |ret=>exact q
theorem yl{p:Prop}:∀ {l:Lh},(∀x∈l,HF x)->p->HFs l p
 | [],_,hp=>hp
 |v::l,h,hp=>⟨h v HT,yl (λx a=>h x (HO _ a)) hp⟩
def IdTo(k:Nat)(ρ:Nat->Lk):Prop:=∀ B,B<k->ρ B=some B
abbrev FamL:=List (Li×(Nat->Option AObj))
def zT(t:T AObj)(l:List Li):Option FamL:=List.rec (motive:=λ_=>Option FamL) (some []) (λp _ ih=>match T.getFn p t with
 |some g=>(match ih with|some r=>some ((p,g)::r)|none=>none)
 |none=>none) l
def tX(t:T AObj)(l:Ld):Option (List (Nat×Nat×AObj)):=List.rec (motive:=λ_=>Option (List (Nat×Nat×AObj))) (some []) (λx _ ih=>match t.get x.2 with
 |some o=>(match ih with|some r=>some ((x.1,x.2,o)::r)|none=>none)
 |none=>none) l
def FQ(ρ:Nat->Lk)(a:FamL)(p:Li)(g:Nat->Option AObj)(l:List (Nat×Nat×AObj)):Prop:=∀ i o1,g i=some o1->(∃x,x∈l/\x.1=i/\ρ (T.numF p i)=some x.2.1/\ROX ρ x.2.2 o1)∨∃ x j o,x∈a/\ρ (T.numF p i)=some (T.numF x.1 j)/\x.2 j=some o/\ROX ρ o o1
abbrev FamS:=List (Li×(Nat->Option AObj)×Ld)
def F5(ρ:Nat->Lk)(gs:FamL)(t:T AObj)(l:FamS):Ll:=List.rec (motive:=λ_=>Ll) (some True) (λx _ ih=>match tX t x.2.2 with
 |some os=>(match ih with|some q=>some (FQ ρ gs x.1 x.2.1 os/\q)|none=>none)
 |none=>none) l
theorem mS{t:T AObj}:∀ {l:List Li}{r:FamL},zT t l=some r->∀ x∈r,T.getFn x.1 t=some x.2
 | [],r,h,x,hx=>by have h:some ([]:FamL)=some r:=h;cases h;cases hx
 | p::l,r,h,x,hx=>by
  have h:(match T.getFn p t with
   |some g=>(match zT t l with|some r=>some ((p,g)::r)|none=>none)
   |none=>none)=some r:=h
  split at h;rename_i g a;split at h;rename_i f d;cases h;rcases HE.1 hx with e|e;rw[e];exact a;exact mS d x e;cases h;cases h
theorem mR{t:T AObj}:∀ {l:Ld}{r:List (Nat×Nat×AObj)},tX t l=some r->∀ x∈r,t.get x.2.1=some x.2.2
 | [],r,h,x,hx=>by have h:some ([]:List (Nat×Nat×AObj))=some r:=h;cases h;cases hx
 | p::l,r,h,x,hx=>by
  have h:(match t.get p.2 with
   |some o=>(match tX t l with|some r=>some ((p.1,p.2,o)::r)|none=>none)
   |none=>none)=some r:=h
  split at h;rename_i g a;split at h;rename_i f d;cases h;rcases HE.1 hx with e|e;rw[e];exact a;exact mR d x e;cases h;cases h
theorem sg{ρ:Nat->Lk}{a:FamL}{A:AH}(r:∀ x∈a,T.getFn x.1 A.t=some x.2):∀ {l:FamS}{q:Prop},F5 ρ a A.t l=some q->q->sh ρ (λ_=>False) A (l.map λx=>(x.1,x.2.1))
 | [],q,h,hq=>trivial
 | x::l,q,h,hq=>by
  have h:(match tX A.t x.2.2 with
   |some d=>(match F5 ρ a A.t l with|some q=>some (FQ ρ a x.1 x.2.1 d/\q)|none=>none)
   |none=>none)=some q:=h
  split at h;rename_i d g;split at h;· rename_i B z;cases h;refine⟨λi e m=>.inl ?_,sg r z hq.2⟩;rcases hq.1 i e m with⟨y,f,rfl,u,s⟩|⟨y,j,o,f,C,u,s⟩;all_goals grind [mR,I8]
  cases h;cases h
def inLb(B:Nat):Lg->Bool
 | []=>false
 |x::l=>bif Nat.beq B x then true else inLb B l
def j6(t:T AObj):Lg->Bool
 | []=>true
 |x::l=>(match t.get x with|some o=> !o.here|none=>true)&&j6 t l
theorem j5{t:T AObj}{B:Nat}{o:AObj}(d:t.get B=some o)(a:o.here=true):∀ {l:Lg},j6 t l=true->inLb B l=false
 | [],_=>rfl
 |x::l,h=>by have h:((match t.get x with|some o=> !o.here|none=>true)&&j6 t l)=true:=h;simp only[f']at h;show(bif Nat.beq B x then true else inLb B l)=false;cases e:Nat.beq B x;exact j5 d a h.2;simp_all
structure RQ (m:Ld) (ρf:Nat->Lk) (dl:Lg) (nx:Nat):Prop where
 lt:∀ B' B,ρf B'=some B->B'<nx
 inj:∀ B1 B2 B,inLb B1 dl=false->inLb B2 dl=false->ρf B1=some B->ρf B2=some B->B1=B2
 sep:∀ x∈m,∀B',inLb B' dl=false->ρf B'≠some x.2
def cg (k : Nat)(dl:Lg)(ov:List (Nat×AObj))(m:Ld)(slots:Lg)(nx:Nat)(fm:FamS)(ρf:Nat->Lk)(K:KF):KF:=λF A=>
 match ta m F slots with
 | some r => (match kU [] ov (rhoX m ρf) m A m with
   | some s =>(match ofL r.2 .leaf with
     | some F1=>(match ofL s.2.2 .leaf with
       | some t0=>(match iO (fm.map λx=>(x.1,x.2.1)) t0 with
         | some t1=>(match zT A.t (fm.map λx=>x.1)with
           | some gs=>(match F5 (rhoX m ρf) gs A.t fm with
             |some q=>bif ((bq nx m&&baks m)&&Nat.ble k nx)&&j6 t1 dl then pc (some s.2.1) (HFs (r.1++s.1) (IdTo k (rhoX m ρf)/\RQ m ρf dl nx/\pc (some q) (K F1 ⟨t1,nx⟩)))else False
             |none=>False)
           |none=>False)
         |none=>False)
       |none=>False)
     |none=>False)
   |none=>False)
 |none=>False
theorem bi(t:GlOk E){dl:Lg}{ov:List (Nat×AObj)}{m:Ld}{nx:Nat}{fm:FamS}{ρf:Nat->Lk}:o8 E A0 n (cg A0.next dl ov m slots nx fm ρf):=λK F A h=>by
 refine qA (ws:=[]) (ov:=ov) (m:=m) (slots:=slots) (nx:=nx) (fm:=fm.map λx=>(x.1,x.2.1)) (ρf:=ρf) (NL:=λ_=>False) t ?_;unfold cg at h;unfold yq;split at h;rename_i r H;rw[H];split at h;rename_i s G;simp only[G];split at h;rename_i F1 O;simp only[O];split at h;rename_i Y g;simp only[g];split at h;rename_i y f;simp only[f];split at h;rename_i Z j;split at h;rename_i q I;cases e:((bq nx m&&baks m)&&Nat.ble A0.next nx)&&j6 y dl;rw[e]at h;exact h.elim;rw[e]at h;simp only[f']at e;have u:((bq nx m&&baks m)&&Nat.ble A0.next nx)=true:=by simp only[f'];exact e.1
 rw[u];obtain⟨J,h⟩:=h;obtain⟨M,i,a,N,L⟩:=gB h;have d:∀ B,(∃o,y.get B=some o/\o.here=true)->inLb B dl=false:=λB ⟨o,S,R⟩=>j5 S R e.2;exact yl M ⟨i,⟨λB P=>P.elim,a.lt,λV U B C z=>a.inj V U B (d _ C) (d _ z),λx D X l=>a.sep x D X (d _ l)⟩,J,sg (mS j) I N,L⟩;exact h.elim;exact h.elim;exact h.elim;exact h.elim;exact h.elim;exact h.elim;exact h.elim
def jD(E:Env)(a:AH)(n:Nat)(K:KF):KF:=λF A=>∃ F1 A1,K F1 A1/\Turns E a n F A F1 A1
theorem cH:o8 E A0 n (jD E A0 n):=λK F A h=>h
def NLOk(m:Ld)(c:Nat->Lk)(b:Nat->Prop)(a:Nat):Prop:=∀ B,b B->c B=none/\back m B=none/\B<a
def FQN(ρ:Nat->Lk)(b:Nat->Prop)(a:FamL)(p:Li)(g:Nat->Option AObj)(l:List (Nat×Nat×AObj)):Prop:=∀ i o1,g i=some o1->(∃x,x∈l/\x.1=i/\ρ (T.numF p i)=some x.2.1/\ROX ρ x.2.2 o1)∨(∃x j o,x∈a/\ρ (T.numF p i)=some (T.numF x.1 j)/\x.2 j=some o/\ROX ρ o o1)∨(b (T.numF p i)/\o1.nilOk=true)
def F6(ρ:Nat->Lk)(NL:Nat->Prop)(gs:FamL)(t:T AObj)(l:FamS):Ll:=List.rec (motive:=λ_=>Ll) (some True) (λx _ ih=>match tX t x.2.2 with
 |some os=>(match ih with|some q=>some (FQN ρ NL gs x.1 x.2.1 os/\q)|none=>none)
 |none=>none) l
theorem si{ρ:Nat->Lk}{NL:Nat->Prop}{a:FamL}{A:AH}(r:∀ x∈a,T.getFn x.1 A.t=some x.2):∀ {l:FamS}{q:Prop},F6 ρ NL a A.t l=some q->q->sh ρ NL A (l.map λx=>(x.1,x.2.1))
 | [],q,h,hq=>trivial
 | x::l,q,h,hq=>by
  have h:(match tX A.t x.2.2 with
   |some d=>(match F6 ρ NL a A.t l with|some q=>some (FQN ρ NL a x.1 x.2.1 d/\q)|none=>none)
   |none=>none)=some q:=h
  split at h;rename_i d g;split at h;· rename_i B z;cases h;refine⟨λi e m=>?_,si r z hq.2⟩;rcases hq.1 i e m with⟨y,f,rfl,u,s⟩|⟨y,j,o,f,D,u,s⟩|C;all_goals grind [mR,I8]
  cases h;cases h
def Cn (k : Nat)(dl:Lg)(ov:List (Nat×AObj))(m:Ld)(slots:Lg)(nx:Nat)(fm:FamS)(ρf:Nat->Lk)(NL:Nat->Prop)(K:KF):KF:=λF A=>
 match ta m F slots with
 | some r => (match kU [] ov (rhoX m ρf) m A m with
   | some s =>(match ofL r.2 .leaf with
     | some F1=>(match ofL s.2.2 .leaf with
       | some t0=>(match iO (fm.map λx=>(x.1,x.2.1)) t0 with
         | some t1=>(match zT A.t (fm.map λx=>x.1)with
           | some gs=>(match F6 (rhoX m ρf) NL gs A.t fm with
             |some q=>bif ((bq nx m&&baks m)&&Nat.ble k nx)&&j6 t1 dl then pc (some s.2.1) (HFs (r.1++s.1) (IdTo k (rhoX m ρf)/\RQ m ρf dl nx/\NLOk m ρf NL nx/\pc (some q) (K F1 ⟨t1,nx⟩)))else False
             |none=>False)
           |none=>False)
         |none=>False)
       |none=>False)
     |none=>False)
   |none=>False)
 |none=>False
theorem yr(u:GlOk E){dl:Lg}{ov:List (Nat×AObj)}{m:Ld}{nx:Nat}{fm:FamS}{ρf:Nat->Lk}{NL:Nat->Prop}:o8 E A0 n (Cn A0.next dl ov m slots nx fm ρf NL):=λK F A h=>by
 refine qA (ws:=[]) (ov:=ov) (m:=m) (slots:=slots) (nx:=nx) (fm:=fm.map λx=>(x.1,x.2.1)) (ρf:=ρf) (NL:=NL) u ?_;unfold Cn at h;unfold yq;split at h;rename_i r I;rw[I];split at h;rename_i s H;simp only[H];split at h;rename_i F1 P;simp only[P];split at h;rename_i Y g;simp only[g];split at h;rename_i z f;simp only[f];split at h;rename_i Z t;split at h;rename_i q J;cases e:((bq nx m&&baks m)&&Nat.ble A0.next nx)&&j6 z dl;rw[e]at h;exact h.elim;rw[e]at h;simp only[f']at e;have y:((bq nx m&&baks m)&&Nat.ble A0.next nx)=true:=by simp only[f'];exact e.1
 rw[y];obtain⟨L,h⟩:=h;obtain⟨N,j,a,i,O,M⟩:=gB h;have d:∀ B,(∃o,z.get B=some o/\o.here=true)->inLb B dl=false:=λB ⟨o,S,R⟩=>j5 S R e.2;exact yl N ⟨j,⟨i,a.lt,λV U B D C=>a.inj V U B (d _ D) (d _ C),λx G X l=>a.sep x G X (d _ l)⟩,L,si (mS t) J O,M⟩;exact h.elim;exact h.elim;exact h.elim;exact h.elim;exact h.elim;exact h.elim;exact h.elim
theorem lH(t:E1.Ok)(H:E1.sym=false)(z:ut E1)(D:E1.P=E.P)(r:∀ σ,Glob E σ->Glob E1 σ){f:FuncId}
 (h:∀ args v,p args=some v->args.all flat=true/\flat v=true/\∃ k A',iK E1 (evN E1 k) f args ⟨.leaf,0⟩=some (v,A')):Con E f (dC p):=by
 intro args A v A' m σ w j R J M;unfold dC at m;split at m;rename_i u I;simp only[osI,Hs]at m;obtain⟨rfl,rfl⟩:=m;obtain⟨q,y,k,X,C⟩:=h args u I;have i:j=args:=mV q M;rw[i];rw[so H]at C;have V:Rel E1.P σ A w:=D▸R;have a:=qr t z (m8 t z k).1 f args _ u X C (sigR σ) w args (relR V) (λg U e=>r σ J g U e) (iG q);rw[D]at a;refine a.mono λe s K=>?_;obtain⟨Y,G,rfl,O,Z,l⟩:=K;have S:=cY y O;subst S;have d:∀ b,b<w.heap.size->s.heap[b]? =w.heap[b]?:=λb L=>l.frame b L λB o x N=>by simp[T.get]at N
 exact⟨_,sigB σ w s,rfl,bI y _,relB R d l.size,extB R d l.size l.os l.tape l.output⟩;cases m
theorem rz{P:Program}{w:World}:∀ {laid:List (String×DataW Unit)}{i:List MemPlace},DataW.LaidVars P w laid i->∀ {n:String}{d:DataW Unit},(n,d)∈laid->
 ∃g t cs a p,P.globalNamed n=some g/\(P.globals[g]?).map (·.type)=some t/\w.var? P n=some cs/\DataW.trod (λ_=>()) P w 0 (λ_=>true) false a t cs.toList=some (d,p)
 | [],_,_,n,d,f=>by simp at f
 |(n0,d0)::r,i,h,n,d,f=>by obtain⟨g,t,cs,a,p,q,s,o,m,l,j,_⟩:=h;rcases HE.1 f with e|f;grind;exact rz j f
theorem v5{P:Program}{d:Nat}{t e:TypeId}{k:IntKind}{cs:Lh}{ls:Le}{p:List MemPlace}(y:P.underlying t=some (.array n e))(C:P.underlying e=some (.int k))(D:P.cellsOf e=1)(G:n=ls.length)
 (h:DataW.trod (λ_=>()) P w 0 (λ_=>true) false d t cs=some (.agg (ls.map λx=>.lit (.int k x)),p)):cs.take ls.length=ls.map (Value.int k):=by
 obtain⟨g,m,_,f,l,u,a⟩:=DataW.trod_array y h;simp only[Hs,DataW.agg.injEq]at f;obtain⟨f,_⟩:=f;have r:∀ i,i<ls.length->cs[i]? =some (.int k (ls[i]?.getD 0)):=λi B=>by
  have q:=a i (by omega);rw[Hr (by omega:i<g.length)]at q;obtain⟨z,j,s,_⟩:=DataW.trod_int C q;have o:(g.map (·.1))[i]? =some (.lit (.int k z)):=by grind
  rw[<-f,List.getElem?_map,Hr B]at o;simp only[Ik,osI,DataW.lit.injEq,Lit.int.injEq,true_and]at o;rw[D,Nat.mul_one]at j;have H:((cs.drop i).take 1)[0]? =some (.int k z):=by rw[j];rfl
  grind
 refine I3 λi=>?_;grind
theorem tO{P:Program}{n:String}{g:Nat}{cs:Array Value}(a:P.globalNamed n=some g)(h:w.var? P n=some cs):∃ e fz,w.heap[g]? =some (.cells cs e fz):=by unfold World.var? at h;grind
theorem wR{laid:List (String×DataW Unit)}{n:String}{g:Nat}{t e:TypeId}{len:Nat}{k:IntKind}{ls:Le}(y:∀ j cs,E.gl j=some cs->j=g/\cs=ls.map (Value.int k))
 (q:(n,(.agg (ls.map λx=>.lit (.int k x)):DataW Unit))∈laid) (r:laidMet E.P laid w) (h:E.P.globalNamed n=some g) (d:(E.P.globals[g]?).map (·.type)=some t) (J:E.P.underlying t=some (.array len e)) (K:E.P.underlying e=some (.int k)) (L:E.P.cellsOf e=1) (f:len=ls.length) (a:0<ls.length):Glob E (sig0 w):=by intro j cs s;obtain⟨rfl,rfl⟩:=y j cs s;obtain⟨I,B,_,_⟩:=r;obtain⟨M,H,cs,i,p,m,l,G,N⟩:=rz B q;rw[h]at m;cases m;rw[d]at l;cases l;obtain⟨D,C,u⟩:=tO h G;refine⟨?_,by simpa using a,cs,D,C,u,?_⟩;rw[HV];intro x o;obtain⟨z,_,rfl⟩:=Hn.1 o;rfl;grind [Hp,v5]
structure TwinE (E E1:Env):Prop where
 ok:E1.Ok
 sym:E1.sym=false
 fns:ut E1
 prog:E1.P=E.P
 glob:∀ σ,Glob E σ->Glob E1 σ
theorem xD(a:TwinE E E1){f:FuncId}(h:iK E1 (evN E1 k) f args A=some (v,A')):CallAt E f args A v A':=by intro e w d R g i;rw[so a.sym]at h;have:=qr a.ok a.fns (m8 a.ok a.fns k).1 f args A v A' h e w d (a.prog▸R) (a.glob e g) i;rw[a.prog]at this;exact this
def cloF(E E1:Env)(k:Nat)(f:FuncId)(args:Lh)(A1:AH)(K:KV):Prop:=match iK E1 (evN E1 k) f args A1 with
 |some r=>K r.1 r.2
 |none=>False
theorem GG(e:E.Ok)(a:GlOk E)(d:TwinE E E1){f:FuncId}{A1:AH}{ns:List (NPos×TypeId×Nat)}{zs:List NPos}{ws:Lg}{N:AH}(h:cloF E E1 k f args A1 (endF E A1 ns zs ws (λv1 i=>v1=v/\i=N))):CallAt E f args A1 v N:=by unfold cloF at h;split at h;rename_i r g;exact(xD d g).tell (qj e a h);exact h.elim
theorem W.closed(d:TwinE E E1)(r:bM E1 c=true){e:Ex}(h:evN E1 k c n F A=some (e,F',A'))(q:Q e F' A'):W E A0 n c Q F A:=by rintro m C a w ⟨g,u,j,i,t⟩ B s;rw[so d.sym]at h;have:=(m8 d.ok d.fns k).1 c r n F A e F' A' h g a w (d.prog▸j) (d.glob g i) u B λz o f y x l=>s e F' A' z o q ⟨f,y,d.prog▸x,i.sub (Ext.sub j l),t.trans l⟩;rw[d.prog]at this;exact this
inductive CR (E E1:Env) (A0:AH) (n:Nat) (b:Code) (Q:Post):T Value->AH->Prop
 |next {k:Nat}{F F':T Value}{A A':AH}(h:evN E1 k b n F A=some (.normal,F',A')) (t:CR E E1 A0 n b Q F' A'):CR E E1 A0 n b Q F A
 |turn {F F1:T Value}{A A1:AH}(h:Turns E A0 n F A F1 A1) (t:CR E E1 A0 n b Q F1 A1):CR E E1 A0 n b Q F A
 |last {F:T Value}{A:AH}(h:W E A0 n b (Then (λ_ _=>False) Q) F A):CR E E1 A0 n b Q F A
theorem W.loopC(y:TwinE E E1)(z:bM E1 b=true)(h:CR E E1 A0 n b Q F A):W E A0 n (.loop b) Q F A:=by
 have l:∃ k,∀d i a w,At E d A0 i n F A a w->∀ g:Exit->Act->World->Prop,(∀q F' A' s r,Q q F' A'->At E d A0 i n F' A' s r->g q.of s r)->Code.rounds E.P b g k a w:=by
  induction h with
  | next h t m=>
   obtain⟨k,m⟩:=m;refine⟨k+1,fun d i a w e g j=>?_⟩;show b.wp E.P (Exit.then (Code.rounds E.P b g k) g) a w;refine W.closed y (A0:=A0) z (Q:=Then (λu x=>u=_/\x=_) (λ_ _ _=>False)) h ⟨rfl,rfl⟩ d i a w e _ λq u x s r o f=>?_;cases q with
   |normal=>obtain⟨rfl,rfl⟩:u=_/\x=_:=o;exact m d i s r f g j
   |exit id=>exact o.elim
   |ret=>exact o.elim
  |turn h t m=>obtain⟨k,m⟩:=m;exact⟨k,fun d i a w e g j=>m d i a w (h d i a w e) g j⟩
  |last h=>
  refine⟨1,fun d i a w e g j=>?_⟩;show b.wp E.P (Exit.then (Code.rounds E.P b g 0) g) a w;refine h d i a w e _ λq u x s r o f=>?_;cases q with
  |normal=>exact o.elim
  |exit id=>exact j _ _ _ _ _ o f
  |ret=>exact j _ _ _ _ _ o f
 obtain⟨k,l⟩:=l;exact fun d i a w e g j=>JZ k (l d i a w e g j)
def evRd(E1:Env)(k:Nat)(b:Code)(n:Nat)(m:Nat):T Value->AH->Option (T Value×AH):=
 Nat.rec (motive:=λ_=>T Value->AH->Option (T Value×AH)) (λF A=>some (F,A)) (λ_ ih F A=>match evN E1 k b n F A with
  |some (.normal,F',A')=>ih F' A'
  |_=>none) m
theorem CR.rounds:∀ (m:Nat) {F F':T Value}{A A':AH},evRd E1 k b n m F A=some (F',A')->CR E E1 A0 n b Q F' A'->CR E E1 A0 n b Q F A
 |0,F,F',A,A',h,t=>by have h:some (F,A)=some (F',A'):=h;cases h;exact t
 | m+1,F,F',A,A',h,t=>by
  have h:(match evN E1 k b n F A with
   |some (.normal,F',A')=>evRd E1 k b n m F' A'
   |_=>none)=some (F',A'):=h
  split at h;rename_i d e a;exact .next a (CR.rounds m h t)
  cases h
def cloR(E E1:Env)(k:Nat)(b:Code)(n:Nat)(A0:AH)(m:Nat)(slots:Lg)(F:T Value)(A:AH)(K:KF):Prop:=match evRd E1 k b n m F A with
 |some r=>eX A0.next E [] [] [] slots r.1 r.2 K
 |none=>False
theorem CR.clo(d:E.Ok)(a:GlOk E){m:Nat}(h:cloR E E1 k b n A0 m slots F A (λF1 A1=>F1=F'/\A1=A'))(t:CR E E1 A0 n b Q F' A'):CR E E1 A0 n b Q F A:=by unfold cloR at h;split at h;rename_i r f;obtain⟨F1,A1,⟨rfl,rfl⟩,e⟩:=cQ d a (n:=n) h;exact CR.rounds m f (.turn e t);exact h.elim
def cloC(E E1:Env)(k:Nat)(c:Code)(n:Nat)(A0:AH)(slots:Lg)(F:T Value)(A:AH)(K:KF):Prop:=match evN E1 k c n F A with
 |some (.normal,F',A')=>eX A0.next E [] [] [] slots F' A' K
 |_=>False
def p4 (A:AH):Nat->Value->Value->Bool
 |0,_,_=>false
 | k + 1,v,v2=>match v2 with
   | .func (.yield sz) ⟨els⟩ ⟨[]⟩=>(match v with
     | .slice none 0 0=>els.isEmpty
     | .slice (some ⟨B,i,none⟩) n q=>(match look A B with
       |some c=>(Nat.ble (n*sz) (c.drop i).length&&Nat.ble n q)&&(Nat.beq els.length n&&(els.all (λx=>Nat.beq x.cells.size sz)&&veqs (p4 A k) ((c.drop i).take (n*sz)) (ap els)))
       |none=>false)
     |_=>false)
   | .agg ⟨cs2⟩=>(match v with| .agg ⟨cs⟩=>veqs (p4 A k) cs cs2|_=>false)
   | .tuple ⟨cs2⟩=>(match v with| .tuple ⟨cs⟩=>veqs (p4 A k) cs cs2|_=>false)
   |v2=>scal v2&&veq 8 v v2
theorem dS{A:AH}{f:Value->Value->Bool}(g:∀ v e,f v e=true->Frz A v e):∀ {l l2:Lh},veqs f l l2=true->FrzL A l l2
 | [],[],_=>.nil
 | a::l,b::l2,h=>by
  have h:(bif f a b then veqs f l l2 else false)=true:=h;cases d:f a b with
  |true=>rw[d]at h;exact .cons (g a b d) (dS g h)
  |false=>rw[d]at h;cases h
 | [],_::_,h=>by cases h
 |_::_,[],h=>by cases h
theorem jp{A:AH}:∀ (k:Nat) (v a:Value),p4 A k v a=true->Frz A v a
 |0,_,_,h=>by cases h
 | k+1,v,a,h=>by
  unfold p4 at h;split at h;rename_i e d;split at h;have:d=[]:=by simpa using h
  subst this;exact .nils e;rename_i B i n q;split at h;rename_i c g;simp only[f',HA,Hy,HV]at h;obtain⟨⟨r,o⟩,m,l,j⟩:=h;exact Frz.slice g r o (dS (jp k) j) rfl (λx f=>l x f) m;cases h;cases h;split at h;exact .agg (dS (jp k) h);cases h;split at h;exact .tuple (dS (jp k) h);cases h;rw[f']at h;rw[jz _ _ _ h.2];exact .same (.scal h.1)
def cj:Nat->Code->Code
 |0,c=>c
 |m+1,c=>match c with| .seq _ b=>cj m b|c=>c
def zZ(E1:Env)(k n:Nat):Nat->Code->T Value->AH->Option (T Value×AH)
 |0,_,F,A=>some (F,A)
 | m +1,c,F,A=>match c with
   | .seq a b=>bif bM E1 a then(match evN E1 k a n F A with
     |some (.normal,F',A')=>zZ E1 k n m b F' A'
     |_=>none)else none
   |_=>none
theorem sm{E E1:Env}(e:TwinE E E1){A0:AH}{k n:Nat}{Q:Post}:∀ (m:Nat) {c:Code}{F F':T Value}{A A':AH},zZ E1 k n m c F A=some (F',A')->W E A0 n (cj m c) Q F' A'->W E A0 n c Q F A
 |0,c,F,F',A,A',h,t=>by have h:some (F,A)=some (F',A'):=h;cases h;exact t
 |m+1,c,F,F',A,A',h,t=>by unfold zZ at h;split at h;rename_i a b;cases d:bM E1 a;rw[d]at h;cases h;rw[d]at h;simp only[C']at h;split at h;rename_i g i f;exact W.seq (W.closed e d f (sm e m h t));cases h;cases h
def cloV(E E1:Env)(k:Nat)(c:Code)(m n:Nat)(A0:AH)(slots:Lg)(F:T Value)(A:AH)(K:KF):Prop:=match zZ E1 k n m c F A with
 |some r=>eX A0.next E [] [] [] slots r.1 r.2 K
 |none=>False
theorem na(e:E.Ok)(a:GlOk E)(d:TwinE E E1){m:Nat}(h:cloV E E1 k c m n A0 slots F A (λF1 A1=>F1=F'/\A1=A'))(t:W E A0 n (cj m c) Q F' A'):W E A0 n c Q F A:=by unfold cloV at h;split at h;rename_i r g;obtain⟨F1,A1,⟨rfl,rfl⟩,f⟩:=cQ e a (n:=n) h;exact sm d m g (W.turns f t);exact h.elim
def cloX(X:SX)(d:Nat)(c:Code)(n:Nat)(A0:AH)(slots:Lg)(F:T Value)(A:AH)(K:KF):Prop:=match c with
 | .seq a _=>sx X d A0 n a F A (Then (λF' A'=>eX A0.next X.E [] [] [] slots F' A' K) (λ_ _ _=>False))
 |_=>False
def cloE(E E1:Env)(k:Nat)(b:Code)(n i:Nat)(A0:AH)(slots:Lg)(F:T Value)(A:AH)(K:KF):Prop:=match evN E1 k b n F A with
 |some (.exit id,F',A')=>bif Nat.beq id i then eX A0.next E [] [] [] slots F' A' K else False
 |_=>False
theorem CR.exit(f:E.Ok)(d:GlOk E)(e:TwinE E E1){i:Nat}{rest:Code}(l:bM E1 b=true)(h:cloE E E1 k b n i A0 slots F A (λF1 A1=>F1=F'/\A1=A'))(t:W E A0 n rest Q F' A'):CR E E1 A0 n b (Blk i (Then (W E A0 n rest Q) Q)) F A:=by unfold cloE at h;split at h;rename_i id m o j;cases a:Nat.beq id i;rw[a]at h;exact h.elim;rw[a]at h;obtain rfl:=Ho a;obtain⟨F1,A1,⟨rfl,rfl⟩,g⟩:=cQ f d (n:=n) h;exact .last (W.closed e l j (show Then (λ_ _=>False) (Blk id (Then (W E A0 n rest Q) Q)) (.exit id) m o from Blk.out (Then.normal (W.turns g t))));exact h.elim
theorem W.loopPiece(e:E.Ok)(a:GlOk E)(d:TwinE E E1){i:Nat}{r rest:Code}(j:c=.seq (.seq r (.block i (.loop b))) rest)(g:bM E1 r=true)(l:bM E1 b=true)(h:cloC E E1 k r n A0 slots F A (λF1 A1=>F1=F'/\A1=A'))(t:CR E E1 A0 n b (Blk i (Then (W E A0 n rest Q) Q)) F' A'):W E A0 n c Q F A:=by rw[j];unfold cloC at h;split at h;rename_i o q m;obtain⟨F1,A1,⟨rfl,rfl⟩,f⟩:=cQ e a (n:=n) h;exact W.seq (W.seq (W.closed d g m (Then.normal (W.block (W.turns f (W.loopC d l t))))));exact h.elim
def cloK(X:SX)(d:Nat)(c:Code)(a:Func)(b:AH)(F:T Value)(A:AH)(K:KV):Prop:=sx X d b a.ntmps c F A (finK X.E a.results.toList K)
theorem xE{X:SX}(a:X.Ok){d:Nat}{fn:Func}{ns:List (NPos×TypeId×Nat)}{zs:List NPos}{ws:Lg}{N:AH}(h:cloK X d c fn A0 F A (endF X.E A0 ns zs ws (λv1 j=>v1=v/\j=N))):W X.E A0 fn.ntmps c (Fin X.E fn (EndF X.E A0 v N)) F A:=
 (ik a h).mono λl F' A' q=>by obtain⟨i,e,g,f⟩:=eG q;exact⟨i,e,g,qj a.ok a.gl f⟩
theorem wU{P:Program}{σ σ':Sig}{A:AH}{w:World}(R:Rel P σ A w)(e:∀ b o,σ.ro b=some o->σ'.ro b=some o)
 (d:∀ B o x,A.t.get B=some o->o.here=true->σ B=some x->σ'.ro x.1=w.heap[x.1]?):∀ {l l2 l':Lh},FrzL A l l2->VRs σ l l'->VRs σ' l2 l'
 |_,_,_,.nil,.nil=>.nil
 |_,_,_,.cons h t,.cons a b=>.cons (h.ok R e d _ a) (wU R e d t b)
def Av(v:Value):Prop:=∀ (σ:Sig) (v':Value),VR σ v v'->v'=v/\∀ σ':Sig,VR σ' v v
theorem pm{l:Lh}(h:l.all flat=true):Av (.tuple ⟨l⟩):=fun f g d=>by
 cases d with
 |tuple e=>rw[mV h e];exact⟨rfl,fun a=>.tuple (iG h)⟩
theorem zU{f:FuncId}(h:Con E f (dC p)){a:Lh}(y:p a=some v)(s:Av v)(C:FrzL A args a):CallAt E f args A v A:=by
 intro l w i R z G;let σ2:Sig:=⟨λ_=>none,λb=>w.heap[b]?,λ_=>False⟩;have K:Rel E.P σ2 ⟨.leaf,0⟩ w:=⟨λB o h=>by simp[T.get]at h,λB S o N x L h=>by simp[T.get]at h,(λB x h=>by cases h),λB h=>rfl,λb o h=>h,λB o x h=>by simp[T.get]at h,λ_ h=>h.elim⟩;have m:Glob E σ2:=Glob.sub (σ:=sigR l) (λg J h=>z g J h) ⟨(λB x h=>by cases h),λb o h=>R.ro b o h⟩;refine(h a ⟨.leaf,0⟩ v ⟨.leaf,0⟩ (by simp[dC,y]) σ2 w i K m (wU R (λb o q=>R.ro b o q) (λB o x _ _ _=>rfl) C G)).mono λe r D=>?_;obtain⟨M,u,rfl,t,O,j⟩:=D;have d:∀ b,b<w.heap.size->r.heap[b]? =w.heap[b]?:=λb q=>j.frame b q λB o x H=>by simp[T.get]at H
 have I:=(s _ _ t).1;subst I;exact⟨_,sigB l w r,rfl,(s _ _ t).2 _,relB R d j.size,extB R d j.size j.os j.tape j.output⟩
def fzR(a:Lh)(v:Value):RunF:=λargs A=>bif veqs (p4 A 16) args a then some (none,v,A)else none
theorem fzR_ok{f:FuncId}(h:Con E f (dC p)){a:Lh}(i:p a=some v)(g:Av v):∀ args A q u A',fzR a v args A=some (q,u,A')->PH q->CallAt E f args A u A':=by intro args A q u A' d _;unfold fzR at d;cases e:veqs (p4 A 16) args a;rw[e]at d;cases d;rw[e]at d;simp only[C',osI,Hs]at d;obtain⟨rfl,rfl,rfl⟩:=d;exact zU h i g (dS (jp 16) e)
def litR(c:Lh)(a:List AObj)(v:Value)(b:List AObj):Lh->List AObj->Option (Ll×Value×List AObj):=λargs objs=>some (some (args=c/\objs=a),v,b)
theorem pF{f:FuncId}{d:Lh}{a e:List AObj}(h:CallAt E f d (aQ a) v (aQ e)):∀ args A p u A',frmR (λ_=>none) (litR d a v e) args A=some (p,u,A')->PH p->CallAt E f args A u A':=wW λargs g p u i j l=>by unfold litR at j;cases j;obtain⟨rfl,rfl⟩:args=d/\g=a:=l;exact h
end
end Go.AM
namespace Go.AM
theorem uk{E:Env}{f:FuncId}{args:Lh}{v u:Value}{N:AH}(h:CallAt E f args ⟨.leaf,0⟩ v N)(D:∀ x∈args,HF x)(t:Frz N v u)(A:AH):CallAt E f args A u A:=by
 intro a w i R C G;refine(h (sigR a) w i (relR R) (λg I h=>C g I h) (HF.moves (σ:=a) (σ':=sigR a) (λ_ _ h=>h) D G)).mono λe j F=>?_;obtain⟨n,q,rfl,H,p,d⟩:=F;have c:∀ b,b<w.heap.size->j.heap[b]? =w.heap[b]?:=λb l=>d.frame b l λB o x m=>by simp[T.get]at m
 refine⟨n,sigB a w j,rfl,t.ok p (λb o l=>?_) (λB o x m z y=>?_) n H,relB R c d.size,extB R c d.size d.os d.tape d.output⟩;show(if b<w.heap.size then a.ro b else j.heap[b]?)=some o;rcases d.rog b o l with k|k|⟨J,s,r,k,_⟩;have k:a.ro b=some o:=k;rw[Ht (iW (R.ro b o k))];exact k;rw[Hm (by omega)];exact p.ro b o l;simp[T.get]at k;show(if x.1<w.heap.size then a.ro x.1 else j.heap[x.1]?)=j.heap[x.1]?;rcases d.orig2 B o x m z y with k|⟨J,s,r,k,_⟩;rw[Hm (by omega)];simp[T.get]at k
def HG(x:Value):Prop:=HF x∨∃ f,x=.func (.func f) ⟨[]⟩ ⟨[]⟩
theorem HG.moves{σ σ':Sig}(a:∀ b o,σ.ro b=some o->σ'.ro b=some o):∀ {l l':Lh},(∀x∈l,HG x)->VRs σ l l'->VRs σ' l l'
 |_,_,_,.nil=>.nil
 | _,_,h,.cons hv t=>by
  refine .cons ?_ (HG.moves a (λx c=>h x (HO _ c)) t);rcases h _ (List.mem_cons_self ..)with h1|⟨f,rfl⟩;exact h1.move a _ hv;cases hv with
  |func g e c d=>cases c;cases d;exact .func _ e .nil .nil
theorem uw{E:Env}(D:E.Ok){f:FuncId}{fn:Func}(q:E.fn f=some fn){args:Lh}{v:Value}(K:∀ x∈args,HG x)(r:Walk E fn args v)(A:AH):CallAt E f args A v A:=by
 intro j w t R J M;obtain⟨c,F,l,m,a,r⟩:=r;refine(kn D q l a (IF m) r (relR R) (λg O h=>J g O h) (HG.moves (σ:=j) (σ':=sigR j) (λ_ _ h=>h) K M)).mono λe n L=>?_;obtain⟨Q,u,S,z,rfl,p,N,y,i⟩:=L;have d:∀ b,b<w.heap.size->n.heap[b]? =w.heap[b]?:=λb m=>i.frame b m λB o x s=>by simp[T.get]at s
 refine⟨u,sigB j w n,rfl,p.ok y (λb o m=>?_) (λB o x s I H=>?_) u N,relB R d i.size,extB R d i.size i.os i.tape i.output⟩;show(if b<w.heap.size then j.ro b else n.heap[b]?)=some o;rcases i.rog b o m with k|k|⟨P,G,C,k,_⟩;have k:j.ro b=some o:=k;rw[Ht (iW (R.ro b o k))];exact k;rw[Hm (by omega)];exact y.ro b o m;simp[T.get]at k;show(if x.1<w.heap.size then j.ro x.1 else n.heap[x.1]?)=n.heap[x.1]?;rcases i.orig2 B o x s I H with k|⟨P,G,C,k,_⟩;rw[Hm (by omega)];simp[T.get]at k
end Go.AM
