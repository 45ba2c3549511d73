/- A part of the proof. -/
import Derived.Test.YtegefclhhjbfhaaGreatDoorA
set_option linter.unusedVariables false
set_option linter.unusedSimpArgs false
namespace Go.HK
abbrev _root_.Go.Iv:=@List.length_pos_of_mem
abbrev _root_.Go.GF:=@List.getD_eq_getElem?_getD
abbrev _root_.Go.Jx:=@List.ne_nil_of_mem
section
variable {α :Type}[DecidableEq α]
theorem cW:∀ {l m:List α},l.Nodup->(∀x∈l,x∈m)->l.length<=m.length
 | [],m,_,_=>Nat.zero_le _
 |x::l,m,h,hs=>by rw[List.nodup_cons]at h;have b:=hs x List.mem_cons_self;have c:=cW (l:=l) (m:=m.erase x) h.2 λy a=>(List.mem_erase_of_ne (λ(e:y=x)=>h.1 (by rw[<-e];exact a))).2 (hs y (List.mem_cons_of_mem _ a));rw[List.length_erase_of_mem b]at c;have:=Iv b;rw[List.length_cons];omega
theorem vt{l m:List α}(h:l.Nodup)(c:∀ x∈l,x∈m)(f:m.length<=l.length):∀ x∈m,x∈l:=λx b=>by refine Classical.byContradiction λd=>?_;have:=cW (l:=x::l) (m:=m) (List.nodup_cons.2 ⟨d,h⟩) λy a=>(List.mem_cons.1 a).elim (λe=>e▸b) (c y);rw[List.length_cons]at this;omega
theorem vu:∀ {l m:List α},l.Nodup->(∀x∈l,x∈m)->m.length<=l.length->m.Nodup
 | [],m,_,_,hl=>by have:m=[]:=List.eq_nil_of_length_eq_zero (by simpa using hl);rw[this];simp
 |x::l,m,h,hs,hl=>by have b:=(List.nodup_cons.1 h).1;have c:=(List.nodup_cons.1 h).2;have d:=hs x List.mem_cons_self;have i:=List.length_erase_of_mem d;have n:=Iv d;rw[List.length_cons]at hl;have a:∀ y∈l,y∈m.erase x:=λy f=>(List.mem_erase_of_ne (λ(e:y=x)=>b (by rw[<-e];exact f))).2 (hs y (List.mem_cons_of_mem _ f));have k:=vu c a (by omega);have j:=vt c a (by omega);exact(List.perm_cons_erase d).nodup_iff.2 (List.nodup_cons.2 ⟨λg=>b (j x g),k⟩)
end
variable {st:Lg}{b n:Nat}
structure HS where
 of:Lg
 mem:List Lg
 work:Lg
 wt:Nat->Bool
abbrev oN(l:Lg)(x:Nat):Nat:=l.getD x 0
abbrev mN(m:List Lg)(b:Nat):Lg:=m.getD b []
def cut1(s:HS)(fresh old:Nat):HS:=
 let nx:=if s.wt old=false/\(mN s.mem old).length<(mN s.mem fresh).length then old else fresh
 ⟨s.of,s.mem,s.work++[nx],λk=>if k=nx then true else s.wt k⟩
def setAll(f:Nat):Lg->Lg->Lg
 | [],o=>o
 |s::l,o=>setAll f l (o.set s f)
def jN(part:Lg)(b:Nat)(s:HS):HS:=
 if part.length=(mN s.mem b).length then s else
  cut1 ⟨setAll s.mem.length part s.of,(s.mem++[part]).set b ((mN s.mem b).filter λx=>oN (setAll s.mem.length part s.of) x≠s.mem.length),s.work,s.wt⟩ s.mem.length b
def metL(of:Lg):Lg->Lg->Lg
 | [],acc=>acc
 |x::l,acc=>metL of l (if oN of x∈acc then acc else acc++[oN of x])
def tQ(st of:Lg):Lg->HS->HS
 | [],t=>t
 |b::l,t=>tQ st of l (jN (st.filter λx=>oN of x=b) b t)
def dF(st:Lg)(s:HS):HS:=tQ st s.of (metL s.of st []) s
structure PV (n:Nat) (s:HS):Prop where
 len:s.of.length=n
 lt:∀ x,x<n->oN s.of x<s.mem.length
 iff:∀ b,b<s.mem.length->∀ x,x∈mN s.mem b↔x<n/\oN s.of x=b
 nd:∀ b,b<s.mem.length->(mN s.mem b).Nodup
 ne:∀ b,b<s.mem.length->mN s.mem b≠[]
theorem k6(f:Nat):∀ (l o:Lg),(setAll f l o).length=o.length
 | [],o=>rfl
 |s::l,o=>by unfold setAll;rw[k6 f l];simp
theorem set_at{o:Lg}{s f x:Nat}(h:s<o.length):oN (o.set s f) x=if x=s then f else oN o x:=by unfold oN;rw[GF,List.getElem?_set];by_cases e:s=x;subst e;simp[h];rw[D' e,D' (λh=>e h.symm),GF]
theorem nU(f:Nat):∀ {l o:Lg},(∀s∈l,s<o.length)->∀ x,oN (setAll f l o) x=if x∈l then f else oN o x
 | [],o,_,x=>by simp[setAll]
 |s::l,o,h,x=>by unfold setAll;rw[nU f (λt c=>by rw[List.length_set];exact h t (List.mem_cons_of_mem _ c)) x,set_at (h s List.mem_cons_self)];by_cases e:x∈l;rw[Gw e,Gw (List.mem_cons_of_mem _ e)];rw[D' e];by_cases a:x=s;rw[Gw a,Gw (by rw[a];exact List.mem_cons_self)];rw[D' a,D' (λh=>(List.mem_cons.1 h).elim a e)]
theorem AT(m:List Lg)(p:Lg)(b:Nat):mN (m++[p]) b=if b=m.length then p else mN m b:=by unfold mN;rw[GF,GF];by_cases e:b=m.length;rw[Gw e,e,List.getElem?_append_right (Nat.le_refl _)];simp;rw[D' e];by_cases h:b<m.length;rw[List.getElem?_append_left h];rw[List.getElem?_eq_none (by simp;omega),List.getElem?_eq_none (by omega)]
theorem vB{m:List Lg}{p:Lg}(h:b<m.length)(k:Nat):mN (m.set b p) k=if k=b then p else mN m k:=by unfold mN;rw[GF,List.getElem?_set];by_cases e:b=k;subst e;simp[h];rw[D' e,D' (λh=>e h.symm),GF]
structure S1 (n:Nat) (part:Lg) (b:Nat) (s t:HS):Prop where
 pv:PV n t
 of:∀ x,x<n->∀ y,y<n->(oN t.of x=oN t.of y↔oN s.of x=oN s.of y/\(oN s.of x=b->(x∈part↔y∈part)))
 keep:∀ x,x<n->oN s.of x≠b->oN t.of x=oN s.of x
 mem:∀ k,k<s.mem.length->k≠b->mN t.mem k=mN s.mem k
 le:s.mem.length<=t.mem.length
 wt:∀ x,x<n->s.wt (oN s.of x)=true->t.wt (oN t.of x)=true
 sep:∀ x,x<n->∀ y,y<n->oN s.of x=oN s.of y->oN t.of x≠oN t.of y->t.wt (oN t.of x)=true∨t.wt (oN t.of y)=true
 wk:(∀k,s.wt k=true->k∈s.work)->∀ k,t.wt k=true->k∈t.work
 wl:(∀k∈s.work,k<s.mem.length)->∀ k∈t.work,k<t.mem.length
 ms:t.work.length+s.mem.length=s.work.length+t.mem.length
theorem uz{part:Lg}{s:HS}(h:PV n s)(B:b<s.mem.length)(p:part≠[])(D:part.Nodup)(L:∀ x∈part,x∈mN s.mem b):S1 n part b s (jN part b s):=by
 unfold jN;by_cases U:part.length=(mN s.mem b).length;rw[Gw U];have r:∀ x,x∈mN s.mem b->x∈part:=by exact vt D L (by omega)
 refine⟨h,λx d y z=>⟨λe=>⟨e,λM=>⟨λ_=>r y ((h.iff b B y).2 ⟨z,e▸M⟩),λ_=>r x ((h.iff b B x).2 ⟨d,M⟩)⟩⟩,λe=>e.1⟩,λ_ _ _=>rfl,λ_ _ _=>rfl,Nat.le_refl _,λ_ _ h=>h,λx _ y _ e ne=>absurd e ne,λh=>h,λh=>h,rfl⟩;rw[D' U];have J:∀ x∈part,x<n:=λx d=>((h.iff b B x).1 (L x d)).1;have Q:∀ x∈part,x<s.of.length:=λx d=>by rw[h.len];exact J x d
 have t:∀ x∈part,oN s.of x=b:=λx d=>((h.iff b B x).1 (L x d)).2;have F:=nU s.mem.length Q;generalize R:setAll s.mem.length part s.of=of2 at*;have E:of2.length=n:=by rw[<-R,k6];exact h.len
 have K:∀ x,x∈(mN s.mem b).filter (λx=>oN of2 x≠s.mem.length)↔x<n/\oN s.of x=b/\¬ x∈part:=by intro x;rw[List.mem_filter,h.iff b B x,F x];constructor;rintro⟨⟨i,l⟩,w⟩;refine⟨i,l,λd=>?_⟩;rw[Gw d]at w;simp at w;rintro⟨i,l,w⟩;refine⟨⟨i,l⟩,?_⟩;rw[D' w,l];simp;omega
 have m:∀ k,mN ((s.mem++[part]).set b ((mN s.mem b).filter λx=>oN of2 x≠s.mem.length)) k=if k=b then(mN s.mem b).filter (λx=>oN of2 x≠s.mem.length)else if k=s.mem.length then part else mN s.mem k:=λk=>by rw[vB (by simp;omega),AT]
 have v:((s.mem++[part]).set b ((mN s.mem b).filter λx=>oN of2 x≠s.mem.length)).length=s.mem.length+1:=by simp
 generalize a1:(s.mem++[part]).set b ((mN s.mem b).filter λx=>oN of2 x≠s.mem.length)=mem2 at*;have X:∃ y,y∈mN s.mem b/\¬ y∈part:=by refine Classical.byContradiction λY=>U ?_;have r:∀ y∈mN s.mem b,y∈part:=λy z=>Classical.byContradiction λl=>Y ⟨y,z,l⟩;have i:=cW D L;have l:=cW (h.nd b B) r;omega
 have f:∀ x,x<n->oN of2 x=if x∈part then s.mem.length else oN s.of x:=λx _=>F x;have G:PV n ⟨of2,mem2,s.work,s.wt⟩:=by
  refine⟨E,λx d=>?_,λk g x=>?_,λk g=>?_,λk g=>?_⟩;show oN of2 x<mem2.length;rw[f x d,v];have:=h.lt x d;split<;>omega;show x∈mN mem2 k↔x<n/\oN of2 x=k;have g:k<s.mem.length+1:=by rw[<-v];exact g
  rw[m k,F x];by_cases N:k=b;rw[Gw N,K x];by_cases d:x∈part;rw[Gw d];constructor;rintro⟨_,_,w⟩;exact absurd d w;rintro⟨_,w⟩;omega;rw[D' d,N];exact⟨λ⟨a,c,_⟩=>⟨a,c⟩,λ⟨a,c⟩=>⟨a,c,d⟩⟩;rw[D' N];by_cases Z:k=s.mem.length;rw[Gw Z];by_cases d:x∈part;rw[Gw d];exact⟨λ_=>⟨J x d,Z.symm⟩,λ_=>d⟩;rw[D' d];refine⟨λi=>absurd i d,λ⟨i,l⟩=>?_⟩;have:=h.lt x i;omega;rw[D' Z,h.iff k (by omega) x];by_cases d:x∈part;rw[Gw d];have:=t x d;constructor;rintro⟨_,l⟩;omega;rintro⟨_,l⟩;omega;rw[D' d];show(mN mem2 k).Nodup;have g:k<s.mem.length+1:=by rw[<-v];exact g
  rw[m k];split;exact(h.nd b B).filter _;split;exact D;exact h.nd k (by omega);show mN mem2 k≠[];have g:k<s.mem.length+1:=by rw[<-v];exact g
  rw[m k];split;obtain⟨y,i,l⟩:=X;have w:=(h.iff b B y).1 i;exact Jx ((K y).2 ⟨w.1,w.2,l⟩);split;exact p;exact h.ne k (by omega)
 have A:∀ x,x<n->∀ y,y<n->(oN of2 x=oN of2 y↔oN s.of x=oN s.of y/\(oN s.of x=b->(x∈part↔y∈part))):=by intro x d y z;rw[f x d,f y z];have lx:=h.lt x d;have ly:=h.lt y z;by_cases j:x∈part;have bx:=t x j;by_cases o:y∈part;have bY:=t y o;rw[Gw j,Gw o];exact⟨λ_=>⟨by omega,λ_=>⟨λ_=>o,λ_=>j⟩⟩,λ_=>rfl⟩;rw[Gw j,D' o];exact⟨λe=>by omega,λ⟨_,e⟩=>absurd ((e bx).1 j) o⟩;by_cases o:y∈part;have bY:=t y o;rw[D' j,Gw o];exact⟨λe=>by omega,λ⟨N,e⟩=>absurd ((e (by omega)).2 o) j⟩;rw[D' j,D' o];exact⟨λe=>⟨e,λ_=>⟨λh=>absurd h j,λh=>absurd h o⟩⟩,λe=>e.1⟩
 have a0:mN mem2 s.mem.length=part:=by rw[m,D' (by omega),Gw rfl]
 unfold cut1;simp only;generalize S:(if s.wt b=false/\(mN mem2 b).length<(mN mem2 s.mem.length).length then b else s.mem.length)=nx;have q:nx=b/\s.wt b=false∨nx=s.mem.length:=by rw[<-S];split;rename_i hh;exact .inl ⟨rfl,hh.1⟩;exact .inr rfl
 refine⟨⟨G.len,G.lt,G.iff,G.nd,G.ne⟩,A,λx d p=>?_,λk g V=>?_,?_,λx d C=>?_,λx d y z e p=>?_,λC k g=>?_,λC k g=>?_,?_⟩;show oN of2 x=_;rw[f x d,D' (λO=>p (t x O))];show mN mem2 k=_;rw[m,D' V,D' (by omega)];show _<=mem2.length;omega;show(if oN of2 x=nx then true else s.wt (oN of2 x))=true;split;rfl;rename_i u;rw[f x d]at u ⊢;by_cases j:x∈part;rw[Gw j]at u;have bx:=t x j;rcases q with⟨_,l⟩|l;rw[bx,l]at C;cases C;exact absurd l.symm u;rw[D' j];exact C;show(if oN of2 x=nx then true else s.wt (oN of2 x))=true∨(if oN of2 y=nx then true else s.wt (oN of2 y))=true;have p:oN of2 x≠oN of2 y:=p;have P:oN s.of x=b/\¬ (x∈part↔y∈part):=by refine Classical.byContradiction λY=>p ((A x d y z).2 ⟨e,λM=>Classical.byContradiction λl=>Y ⟨M,l⟩⟩)
 rw[f x d,f y z];obtain⟨I,H⟩:=P;by_cases j:x∈part;have o:¬ y∈part:=λh=>H ⟨λ_=>h,λ_=>j⟩;rw[Gw j,D' o,<-e,I];rcases q with⟨i,_⟩|i;right;rw[Gw i.symm];left;rw[Gw i.symm];have o:y∈part:=Classical.byContradiction λh=>H ⟨λa=>absurd a j,λa=>absurd a h⟩;rw[D' j,Gw o,I];rcases q with⟨i,_⟩|i;left;rw[Gw i.symm];right;rw[Gw i.symm];have g:(if k=nx then true else s.wt k)=true:=g;show k∈s.work++[nx];by_cases ek:k=nx;simp[ek];rw[D' ek]at g;exact List.mem_append.2 (.inl (C k g));show k<mem2.length;have g:k∈s.work++[nx]:=g;rcases List.mem_append.1 g with g|g;have:=C k g;omega;have:k=nx:=by simpa using g
 rcases q with⟨i,_⟩|i<;>omega;show(s.work++[nx]).length+s.mem.length=s.work.length+mem2.length;rw[List.length_append,v];simp;omega
abbrev _root_.Go.JL:=@List.length_singleton
abbrev _root_.Go.I4:=@List.getElem?_replicate
theorem gJ(of:Lg):∀ (st acc:Lg) (b:Nat),b∈metL of st acc↔b∈acc∨∃ x∈st,oN of x=b
 | [],acc,b=>by simp[metL]
 |x::l,acc,b=>by unfold metL;rw[gJ of l];by_cases h:oN of x∈acc;rw[Gw h];constructor;rintro(a|⟨y,a,h2⟩);exact .inl a;exact .inr ⟨y,List.mem_cons_of_mem _ a,h2⟩;rintro(a|⟨y,a,h2⟩);exact .inl a;rcases List.mem_cons.1 a with rfl|a;exact .inl (h2▸h);exact .inr ⟨y,a,h2⟩;rw[D' h];constructor;rintro(a|⟨y,a,h2⟩);rcases List.mem_append.1 a with a|a;exact .inl a;exact .inr ⟨x,List.mem_cons_self,(List.mem_singleton.1 a).symm⟩;exact .inr ⟨y,List.mem_cons_of_mem _ a,h2⟩;rintro(a|⟨y,a,h2⟩);exact .inl (List.mem_append.2 (.inl a));rcases List.mem_cons.1 a with rfl|a;exact .inl (List.mem_append.2 (.inr (by rw[List.mem_singleton];exact h2.symm)));exact .inr ⟨y,a,h2⟩
theorem pE(of:Lg):∀ (st acc:Lg),acc.Nodup->(metL of st acc).Nodup
 | [],acc,h=>h
 | x::l,acc,h=>by
  unfold metL;refine pE of l _ ?_;by_cases c:oN of x∈acc;rw[Gw c];exact h;rw[D' c];exact List.nodup_append.2 ⟨h,by simp,λa f b d=>by
   have:b=oN of x:=by simpa using d
   rw[this];exact λe=>c (e▸f)⟩
structure FP (n:Nat) (st:Lg) (s t:HS) (D:Lg):Prop where
 pv:PV n t
 of:∀ x,x<n->∀ y,y<n->(oN t.of x=oN t.of y↔oN s.of x=oN s.of y/\(oN s.of x∈D->(x∈st↔y∈st)))
 keep:∀ x,x<n->¬ oN s.of x∈D->oN t.of x=oN s.of x
 mem:∀ k,k<s.mem.length->¬ k∈D->mN t.mem k=mN s.mem k
 le:s.mem.length<=t.mem.length
 wt:∀ x,x<n->s.wt (oN s.of x)=true->t.wt (oN t.of x)=true
 sep:∀ x,x<n->∀ y,y<n->oN s.of x=oN s.of y->oN t.of x≠oN t.of y->t.wt (oN t.of x)=true∨t.wt (oN t.of y)=true
 wk:(∀k,s.wt k=true->k∈s.work)->∀ k,t.wt k=true->k∈t.work
 wl:(∀k∈s.work,k<s.mem.length)->∀ k∈t.work,k<t.mem.length
 ms:t.work.length+s.mem.length=s.work.length+t.mem.length
theorem FP.init{s:HS}(h:PV n s):FP n st s s []:=
 ⟨h,λx _ y _=>⟨λe=>⟨e,λh=>by cases h⟩,λe=>e.1⟩,λ_ _ _=>rfl,λ_ _ _=>rfl,Nat.le_refl _,λ_ _ h=>h,λ_ _ _ _ e a=>absurd e a,λh=>h,λh=>h,rfl⟩
theorem FP.step{s t:HS}{D:Lg}(H:PV n s)(h:FP n st s t D)(A:b<s.mem.length)(E:¬ b∈D)(q:∀ x∈st,x<n)(w:st.Nodup)(I:∃ x∈st,oN s.of x=b):
 FP n st s (jN (st.filter λx=>oN s.of x=b) b t) (b::D):=by
 have o:b<t.mem.length:=Nat.lt_of_lt_of_le A h.le;have g:∀ x,x∈(st.filter λx=>oN s.of x=b)↔x∈st/\oN s.of x=b:=λx=>by rw[List.mem_filter];simp
 have z:=h.mem b A E;have m:∀ x,x<n->(oN t.of x=b↔oN s.of x=b):=λx a=>by constructor;intro e;have:=(h.pv.iff b o x).2 ⟨a,e⟩;rw[z]at this;exact((H.iff b A x).1 this).2;intro e;rw[h.keep x a (by rw[e];exact E),e]
 have d:=uz (part:=st.filter λx=>oN s.of x=b) h.pv o (by
  obtain⟨x,d,i⟩:=I;exact Jx ((g x).2 ⟨d,i⟩)) (w.filter _) (λx a=>by
  obtain⟨i,v⟩:=(g x).1 a;exact(h.pv.iff b o x).2 ⟨q x i,(m x (q x i)).2 v⟩)
 generalize jN (st.filter λx=>oN s.of x=b) b t=u at*;have J:=d.le;refine⟨d.pv,λx a y p=>?_,λx a r=>?_,λk C r=>?_,Nat.le_trans h.le d.le,λx a f=>d.wt x a (h.wt x a f),λx a y p e G=>?_,λf=>d.wk (h.wk f),λf=>d.wl (h.wl f),?_⟩;rw[d.of x a y p,h.of x a y p,m x a,g,g];constructor;rintro⟨⟨e1,e2⟩,e3⟩;refine⟨e1,λc=>?_⟩;rcases List.mem_cons.1 c with c|c;have:=e3 c;exact⟨λl=>(this.1 ⟨l,c⟩).1,λj=>(this.2 ⟨j,e1▸c⟩).1⟩;exact e2 c;rintro⟨e1,e2⟩;refine⟨⟨e1,λc=>e2 (List.mem_cons_of_mem _ c)⟩,λB=>?_⟩;have:=e2 (by rw[B];exact List.mem_cons_self);exact⟨λl=>⟨this.1 l.1,e1▸B⟩,λj=>⟨this.2 j.1,B⟩⟩;have i:¬ oN s.of x=b:=λe=>r (by rw[e];exact List.mem_cons_self);have v:¬ oN s.of x∈D:=λe=>r (List.mem_cons_of_mem _ e);rw[d.keep x a (λe=>i ((m x a).1 e)),h.keep x a v];have i:k≠b:=λe=>r (by rw[e];exact List.mem_cons_self);have v:¬ k∈D:=λe=>r (List.mem_cons_of_mem _ e);rw[d.mem k (Nat.lt_of_lt_of_le C h.le) i,h.mem k C v];by_cases F:oN t.of x=oN t.of y;exact d.sep x a y p F G;rcases h.sep x a y p e F with f|f;exact .inl (d.wt x a f);exact .inr (d.wt y p f);have:=h.ms;have:=d.ms;omega
theorem rU{n:Nat}{st:Lg}{s:HS}(f:PV n s)(a:∀ x∈st,x<n)(c:st.Nodup):∀ (L:Lg) {t:HS}{D:Lg},FP n st s t D->L.Nodup->(∀b∈L,¬b∈D/\b<s.mem.length/\∃ x∈st,oN s.of x=b)->∃ d,(∀b,b∈d↔b∈D∨b∈L)/\FP n st s (tQ st s.of L t) d
 | [],t,D,h,_,_=>⟨D,λb=>by simp,h⟩
 | b::L,t,D,h,hL,hb=>by
  rw[List.nodup_cons]at hL;obtain⟨q,b2,p⟩:=hb b List.mem_cons_self;obtain⟨d,o,m⟩:=rU f a c L (h.step f b2 q a c p) hL.2 (λk g=>by obtain⟨j,i⟩:=hb k (List.mem_cons_of_mem _ g);refine⟨λl=>?_,i⟩;rcases List.mem_cons.1 l with e|e;exact hL.1 (e▸g);exact j e)
  refine⟨d,λk=>?_,m⟩;rw[o k,List.mem_cons,List.mem_cons];constructor;rintro((h|h)|h);exact .inr (.inl h);exact .inl h;exact .inr (.inr h);rintro(h|h|h);exact .inl (.inr h);exact .inl (.inl h);exact .inr h
structure SS (n:Nat) (st:Lg) (s t:HS):Prop where
 pv:PV n t
 of:∀ x,x<n->∀ y,y<n->(oN t.of x=oN t.of y↔oN s.of x=oN s.of y/\(x∈st↔y∈st))
 wt:∀ x,x<n->s.wt (oN s.of x)=true->t.wt (oN t.of x)=true
 sep:∀ x,x<n->∀ y,y<n->oN s.of x=oN s.of y->oN t.of x≠oN t.of y->t.wt (oN t.of x)=true∨t.wt (oN t.of y)=true
 wk:(∀k,s.wt k=true->k∈s.work)->∀ k,t.wt k=true->k∈t.work
 wl:(∀k∈s.work,k<s.mem.length)->∀ k∈t.work,k<t.mem.length
 ms:t.work.length+s.mem.length=s.work.length+t.mem.length
 le:s.mem.length<=t.mem.length
theorem dE{s:HS}(d:PV n s)(c:∀ x∈st,x<n)(f:st.Nodup):SS n st s (dF st s):=by
 obtain⟨D,m,a⟩:=rU d c f (metL s.of st []) (FP.init d) (pE _ _ _ (by simp)) (λb l=>by rcases(gJ _ _ _ _).1 l with h|⟨x,h,e⟩;cases h;exact⟨by simp,e▸d.lt x (c x h),x,h,e⟩)
 have i:∀ b,b∈D↔∃ x∈st,oN s.of x=b:=λb=>by rw[m,gJ];simp
 refine⟨a.pv,λx k y j=>?_,a.wt,a.sep,a.wk,a.wl,a.ms,a.le⟩;show oN (tQ st s.of (metL s.of st []) s).of x=oN (tQ st s.of (metL s.of st []) s).of y↔_;rw[a.of x k y j];constructor;rintro⟨e1,e2⟩;refine⟨e1,?_⟩;by_cases g:oN s.of x∈D;exact e2 g;exact⟨λh=>absurd ((i _).2 ⟨x,h,rfl⟩) g,λh=>absurd ((i _).2 ⟨y,h,e1.symm⟩) g⟩;rintro⟨e1,e2⟩;exact⟨e1,λ_=>e2⟩
section
variable (δ :Nat->Nat->Nat) (n nc:Nat)
def bk(c z:Nat):Lg:=(List.range n).filter λt=> δ t c=z
def dO(own:Lg):Lg->HS->HS
 | [],s=>s
 |c::l,s=>dO own l (dF (own.flatMap (bk δ n c)) s)
def popH(s:HS)(b:Nat):HS:=⟨s.of,s.mem,s.work.dropLast,λk=>if k=b then false else s.wt k⟩
def iz:Nat->HS->HS
 |0,s=>s
 | f+1,s=>match s.work.getLast? with
   |none=>s
   |some b=>iz f (dO δ n (mN s.mem b) (List.range nc) (popH s b))
variable {δ n nc}
variable {c:Nat}{acc:Nat->Bool}
theorem bk_mem{z t:Nat}:t∈bk δ n c z↔t<n/\ δ t c=z:=by unfold bk;rw[List.mem_filter];simp
theorem from_mem{t:Nat}{own:Lg}:t∈own.flatMap (bk δ n c)↔t<n/\ δ t c∈own:=by rw[List.mem_flatMap];constructor;rintro⟨z,h1,h2⟩;obtain⟨b,a⟩:=bk_mem.1 h2;exact⟨b,a▸h1⟩;rintro⟨h1,h2⟩;exact⟨_,h2,bk_mem.2 ⟨h1,rfl⟩⟩
theorem na{c:Nat}:∀ {own:Lg},own.Nodup->(own.flatMap (bk δ n c)).Nodup
 | [],_=>by simp
 |z::l,h=>by rw[List.nodup_cons]at h;rw[List.flatMap_cons];refine List.nodup_append.2 ⟨List.nodup_range.filter _,na h.2,λa f b d=>?_⟩;obtain⟨k,i⟩:=bk_mem.1 f;obtain⟨j,g⟩:=from_mem.1 d;intro e;subst e;exact h.1 (i▸g)
structure LP (E:Nat->Nat->Prop) (acc:Nat->Bool) (own:Lg) (c0:Nat) (s:HS):Prop where
 pv:PV n s
 inv:∀ x,x<n->∀ y,y<n->oN s.of x=oN s.of y->∀ c,c<nc->oN s.of (δ x c)≠oN s.of (δ y c)->s.wt (oN s.of (δ x c))=true∨s.wt (oN s.of (δ y c))=true∨(c0<=c/\¬ (δ x c∈own↔ δ y c∈own))
 co:∀ x,x<n->∀ y,y<n->E x y->oN s.of x=oN s.of y
 ac:∀ x,x<n->∀ y,y<n->oN s.of x=oN s.of y->acc x=acc y
 wk:∀ k,s.wt k=true->k∈s.work
 wl:∀ k∈s.work,k<s.mem.length
theorem qH{E:Nat->Nat->Prop}{acc:Nat->Bool}(f :∀ x,x<n->∀ c,c<nc-> δ x c<n)(v:∀ x,x<n->∀ y,y<n->E x y->∀ c,c<nc->E (δ x c) (δ y c)){own:Lg}(j:own.Nodup)(r:∀ x,x<n->∀ y,y<n->E x y->(x∈own↔y∈own)):
 ∀(k a:Nat) {s:HS},a+k=nc->LP (δ := δ) (n:=n) (nc:=nc) E acc own a s->LP (δ := δ) (n:=n) (nc:=nc) E acc own nc (dO δ n own (List.range' a k) s)/\(dO δ n own (List.range' a k) s).work.length+s.mem.length=s.work.length+(dO δ n own (List.range' a k) s).mem.length
 | 0,a,s,hk,h=>by
  obtain rfl:a=nc:=by omega
  exact⟨h,rfl⟩
 | k+1,a,s,hk,h=>by
  have q:a<nc:=by omega
  rw[List.range'_succ];unfold dO;have g:=dE (st:=own.flatMap (bk δ n a)) h.pv (λx b=>(from_mem.1 b).1) (na j);generalize dF (own.flatMap (bk δ n a)) s=t at*;have i:∀ x,x<n->(x∈own.flatMap (bk δ n a)↔ δ x a∈own):=λx b=>by rw[from_mem];exact⟨λh=>h.2,λh=>⟨b,h⟩⟩
  have C:LP (δ := δ) (n:=n) (nc:=nc) E acc own (a+1) t:=by refine⟨g.pv,λx b y d e c m A=>?_,λx b y d e=>?_,λx b y d e=>h.ac x b y d ((g.of x b y d).1 e).1,g.wk h.wk,g.wl h.wl⟩;obtain⟨G,z⟩:=(g.of x b y d).1 e;have p:=f x b c m;have o:=f y d c m;by_cases w:oN s.of (δ x c)=oN s.of (δ y c);rcases g.sep _ p _ o w A with l|l;exact .inl l;exact .inr (.inl l);rcases h.inv x b y d G c m w with l|l|⟨B,u⟩;exact .inl (g.wt _ p l);exact .inr (.inl (g.wt _ o l));refine .inr (.inr ⟨?_,u⟩);by_cases F:c=a;subst F;rw[i x b,i y d]at z;exact absurd z u;omega;refine(g.of x b y d).2 ⟨h.co x b y d e,?_⟩;rw[i x b,i y d];exact r _ (f x b a q) _ (f y d a q) (v x b y d e a q)
  obtain⟨D,H⟩:=qH f v j r k (a+1) (by omega) C;refine⟨D,?_⟩;have:=g.ms;omega
theorem PV.le{s:HS}(h:PV n s):s.mem.length<=n:=by
 have a:=cW (l:=List.range s.mem.length) (m:=(List.range n).map (oN s.of)) List.nodup_range λb d=>by
  have d:b<s.mem.length:=by simpa using d
  obtain⟨x,e⟩:=List.exists_mem_of_ne_nil _ (h.ne b d);obtain⟨g,f⟩:=(h.iff b d x).1 e;exact List.mem_map.2 ⟨x,by simpa using g,f⟩
 simpa using a
structure LI (E:Nat->Nat->Prop) (acc:Nat->Bool) (s:HS):Prop where
 pv:PV n s
 inv:∀ x,x<n->∀ y,y<n->oN s.of x=oN s.of y->∀ c,c<nc->oN s.of (δ x c)≠oN s.of (δ y c)->s.wt (oN s.of (δ x c))=true∨s.wt (oN s.of (δ y c))=true
 co:∀ x,x<n->∀ y,y<n->E x y->oN s.of x=oN s.of y
 ac:∀ x,x<n->∀ y,y<n->oN s.of x=oN s.of y->acc x=acc y
 wk:∀ k,s.wt k=true->k∈s.work
 wl:∀ k∈s.work,k<s.mem.length
theorem dY{l:Lg}{b:Nat}(h:l.getLast? =some b):l=l.dropLast++[b]:=by
 have a:l≠[]:=λe=>by rw[e]at h;cases h
 have d:=List.dropLast_concat_getLast a;rw[List.getLast?_eq_some_getLast a]at h;simp only[osI]at h;rw[<-h,d]
theorem qT{E:Nat->Nat->Prop}(j :∀ x,x<n->∀ c,c<nc-> δ x c<n)(J:∀ x,x<n->∀ y,y<n->E x y->∀ c,c<nc->E (δ x c) (δ y c)){s:HS}{b:Nat}(h:LI (δ := δ) (n:=n) (nc:=nc) E acc s)(I:s.work.getLast? =some b):
 LI (δ := δ) (n:=n) (nc:=nc) E acc (dO δ n (mN s.mem b) (List.range nc) (popH s b))/\(dO δ n (mN s.mem b) (List.range nc) (popH s b)).work.length+s.mem.length+1=s.work.length+(dO δ n (mN s.mem b) (List.range nc) (popH s b)).mem.length:=by
 have v:=dY I;have u:b<s.mem.length:=h.wl b (by rw[v];simp);have d:∀ z,z<n->(z∈mN s.mem b↔oN s.of z=b):=λz H=>by rw[h.pv.iff b u z];exact⟨λa=>a.2,λa=>⟨H,a⟩⟩
 have w:LP (δ := δ) (n:=n) (nc:=nc) E acc (mN s.mem b) 0 (popH s b):=by refine⟨⟨h.pv.len,h.pv.lt,h.pv.iff,h.pv.nd,h.pv.ne⟩,λx m y l e c t i=>?_,h.co,h.ac,λk g=>?_,λk g=>?_⟩;have e:oN s.of x=oN s.of y:=e;have i:oN s.of (δ x c)≠oN s.of (δ y c):=i;have r:=j x m c t;have q:=j y l c t;show(if oN s.of (δ x c)=b then false else s.wt (oN s.of (δ x c)))=true∨(if oN s.of (δ y c)=b then false else s.wt (oN s.of (δ y c)))=true∨_;by_cases C:oN s.of (δ x c)=b;refine .inr (.inr ⟨Nat.zero_le _,λo=>?_⟩);have:=(d _ q).1 (o.1 ((d _ r).2 C));exact i (C.trans this.symm);by_cases B:oN s.of (δ y c)=b;refine .inr (.inr ⟨Nat.zero_le _,λo=>?_⟩);have:=(d _ r).1 (o.2 ((d _ q).2 B));exact i (this.trans B.symm);rw[D' C,D' B];rcases h.inv x m y l e c t i with f|f;exact .inl f;exact .inr (.inl f);have g:(if k=b then false else s.wt k)=true:=g;by_cases D:k=b;rw[Gw D]at g;cases g;rw[D' D]at g;have:=h.wk k g;rw[v]at this;rcases List.mem_append.1 this with A|A;exact A;exact absurd (by simpa using A) D;refine h.wl k ?_;rw[v];exact List.mem_append.2 (.inl g)
 have F:=qH j J (h.pv.nd b u) (λx m y l e=>by rw[d x m,d y l,h.co x m y l e]) nc 0 (by omega) w;rw[<-List.range_eq_range']at F;obtain⟨p,G⟩:=F;refine⟨⟨p.pv,λx m y l e c t i=>?_,p.co,p.ac,p.wk,p.wl⟩,?_⟩;rcases p.inv x m y l e c t i with f|f|⟨f,_⟩;exact .inl f;exact .inr f;omega;have G:_+s.mem.length=s.work.dropLast.length+_:=G;have K:s.work.length=s.work.dropLast.length+1:=by have:=congrArg List.length v;rw[List.length_append,JL]at this;exact this
 omega
theorem vC{E:Nat->Nat->Prop}{acc:Nat->Bool}(a :∀ x,x<n->∀ c,c<nc-> δ x c<n)(e:∀ x,x<n->∀ y,y<n->E x y->∀ c,c<nc->E (δ x c) (δ y c)):
 ∀(f:Nat) {s:HS},LI (δ := δ) (n:=n) (nc:=nc) E acc s->s.work.length+n<f+s.mem.length->LI (δ := δ) (n:=n) (nc:=nc) E acc (iz δ n nc f s)/\(iz δ n nc f s).work=[]
 |0,s,h,hf=>by have:=h.pv.le;omega
 | f+1,s,h,hf=>by
  unfold iz;cases d:s.work.getLast? with
  |none=>exact⟨h,by simpa using d⟩
  |some b=>simp only;obtain⟨g,i⟩:=qT a e h d;exact vC a e f g (by omega)
def runW(δ :Nat->Nat->Nat):Nat->Lg->Nat
 |x,[]=>x
 |x,c::w=>runW δ (δ x c) w
def Eqv(δ :Nat->Nat->Nat)(nc:Nat)(acc:Nat->Bool)(x y:Nat):Prop:=∀ w:Lg,(∀c∈w,c<nc)->acc (runW δ x w)=acc (runW δ y w)
theorem Eqv.next{x y:Nat}(h:Eqv δ nc acc x y)(d:c<nc):Eqv δ nc acc (δ x c) (δ y c):=λw b=>h (c::w) λk a=>by rcases List.mem_cons.1 a with rfl|a;exact d;exact b k a
def gO(n:Nat):HS:=⟨List.replicate n 0,[List.range n],[0],λk=>if k=0 then true else false⟩
def yesL(n:Nat)(acc:Nat->Bool):Lg:=(List.range n).filter λx=>acc x
def da(δ :Nat->Nat->Nat)(n nc:Nat)(acc:Nat->Bool):HS:=iz δ n nc (n+2) (dF (yesL n acc) (gO n))
theorem iE{x:Nat}(a:x<n):oN (gO n).of x=0:=by show(List.replicate n 0).getD x 0=0;rw[GF,I4,Gw a];rfl
theorem ke(f:0<n):PV n (gO n):=by
 have d:∀ b,b<(gO n).mem.length->b=0:=λb a=>by have a:b<1:=a;omega
 refine⟨by simp[gO],λx e=>by rw[iE e];exact Nat.zero_lt_one,λb a x=>?_,λb a=>?_,λb a=>?_⟩;obtain rfl:=d b a;show x∈List.range n↔_;rw[List.mem_range];exact⟨λh=>⟨h,iE h⟩,λh=>h.1⟩;obtain rfl:=d b a;exact List.nodup_range;obtain rfl:=d b a;show List.range n≠[];exact Jx (List.mem_range.2 f)
theorem v7(r:0<n)(g :∀ x,x<n->∀ c,c<nc-> δ x c<n):LI (δ := δ) (n:=n) (nc:=nc) (Eqv δ nc acc) acc (dF (yesL n acc) (gO n)):=by
 have j:∀ x,x∈yesL n acc↔x<n/\acc x=true:=λx=>by unfold yesL;rw[List.mem_filter];simp
 have s:=ke r;have f:=dE (st:=yesL n acc) s (λx b=>((j x).1 b).1) (List.nodup_range.filter _);have u:∀ x,x<n->∀ y,y<n->Eqv δ nc acc x y->∀ c,c<nc->Eqv δ nc acc (δ x c) (δ y c):=λx _ y _ h c m=>h.next m
 refine⟨f.pv,λx b y a e c m q=>?_,λx b y a e=>(f.of x b y a).2 ⟨by rw[iE b,iE a],?_⟩,λx b y a e=>?_,f.wk λk d=>?_,f.wl λk d=>?_⟩;have l:=g x b c m;have i:=g y a c m;exact f.sep _ l _ i (by rw[iE l,iE i]) q;rw[j,j];have:=e [] (by simp);have this:acc x=acc y:=this;rw[this];exact⟨λh=>⟨a,h.2⟩,λh=>⟨b,h.2⟩⟩;have:=((f.of x b y a).1 e).2;rw[j,j]at this;cases o:acc x with
 |true=>exact((this.1 ⟨b,o⟩).2).symm
 |false=>cases t:acc y;rfl;rw[(this.2 ⟨a,t⟩).2]at o;cases o
 have d:(if k=0 then true else false)=true:=d;by_cases p:k=0;rw[p];exact List.mem_singleton.2 rfl;rw[D' p]at d;cases d;have:k=0:=by simpa[gO]using d
 rw[this];exact Nat.zero_lt_one
theorem jy(q:0<n)(b :∀ x,x<n->∀ c,c<nc-> δ x c<n):PV n (da δ n nc acc)/\∀ x,x<n->∀ y,y<n->(oN (da δ n nc acc).of x=oN (da δ n nc acc).of y↔Eqv δ nc acc x y):=by
 have A:=dE (st:=yesL n acc) (ke q) (λx a=>by unfold yesL at a;rw[List.mem_filter]at a;simpa using a.1) (List.nodup_range.filter _);have o:=v7 (δ := δ) (nc:=nc) (acc:=acc) q b;have z:∀ x,x<n->∀ y,y<n->Eqv δ nc acc x y->∀ c,c<nc->Eqv δ nc acc (δ x c) (δ y c):=λx _ y _ h c g=>h.next g
 have C:=A.ms;have u:(gO n).work.length=1:=rfl;have v:(gO n).mem.length=1:=rfl;obtain⟨j,B⟩:=vC (f:=n+2) b z o (by omega);refine⟨j.pv,λx a y d=>⟨λe=>?_,j.co x a y d⟩⟩;have l:∀ x,x<n->∀ y,y<n->oN (da δ n nc acc).of x=oN (da δ n nc acc).of y->∀ c,c<nc->oN (da δ n nc acc).of (δ x c)=oN (da δ n nc acc).of (δ y c):=λx a y t e c g=>Classical.byContradiction λr=>by
  have i:∀ k,¬(da δ n nc acc).wt k=true:=λk m=>by have:=j.wk k m;rw[B]at this;cases this
  rcases j.inv x a y t e c g r with h|h;exact i _ h;exact i _ h
 intro w;induction w generalizing x y with
 |nil=>exact λ_=>j.ac x a y d e
 |cons c w s=>intro p;have g:=p c List.mem_cons_self;exact s _ (b x a c g) _ (b y d c g) (l x a y d e c g) λk m=>p k (List.mem_cons_of_mem _ m)
end
abbrev _root_.Go.HL:=@List.length_range
section
variable {K:Type}[DecidableEq K]
def ddA:List K->List K->List K
 |acc,[]=>acc
 |acc,x::l=>ddA (if x∈acc then acc else acc++[x]) l
def dd(l:List K):List K:=ddA [] l
theorem xg:∀ (l acc:List K) (k:K),k∈ddA acc l↔k∈acc∨k∈l
 | [],acc,k=>by simp[ddA]
 |x::l,acc,k=>by unfold ddA;rw[xg l];by_cases h:x∈acc;rw[Gw h,List.mem_cons];constructor;rintro(h1|h1);exact .inl h1;exact .inr (.inr h1);rintro(h1|h1|h1);exact .inl h1;exact .inl (h1▸h);exact .inr h1;rw[D' h,List.mem_append,List.mem_singleton,List.mem_cons];constructor;rintro((h1|h1)|h1);exact .inl h1;exact .inr (.inl h1);exact .inr (.inr h1);rintro(h1|h1|h1);exact .inl (.inl h1);exact .inl (.inr h1);exact .inr h1
theorem Bu:∀ (l acc:List K),acc.Nodup->(ddA acc l).Nodup
 | [],acc,h=>h
 | x::l,acc,h=>by
  unfold ddA;refine Bu l _ ?_;by_cases c:x∈acc;rw[Gw c];exact h;rw[D' c];exact List.nodup_append.2 ⟨h,by simp,λa f b d=>by
   have:b=x:=by simpa using d
   rw[this];exact λe=>c (e▸f)⟩
theorem dd_mem{l:List K}{k:K}:k∈dd l↔k∈l:=by unfold dd;rw[xg];simp
theorem xf(l:List K):(dd l).Nodup:=Bu l [] (by simp)
def ixK:List K->K->Nat
 | [],_=>0
 |x::l,k=>if x=k then 0 else ixK l k+1
theorem v3:∀ {l:List K}{a b:K},a∈l->b∈l->ixK l a=ixK l b->a=b
 | [],a,b,h,_,_=>by cases h
 | x::l,a,b,ha,hb,h=>by
  unfold ixK at h;by_cases d:x=a;by_cases c:x=b;rw[<-d,c];rw[Gw d,D' c]at h;omega;by_cases c:x=b;rw[D' d,Gw c]at h;omega;rw[D' d,D' c]at h;have f:ixK l a=ixK l b:=by omega
  exact v3 (l:=l) ((List.mem_cons.1 ha).elim (λe=>absurd e.symm d) id) ((List.mem_cons.1 hb).elim (λe=>absurd e.symm c) id) f
theorem rF:∀ {l:List K}{a:K},a∈l->ixK l a<l.length
 | [],a,h=>by cases h
 |x::l,a,h=>by unfold ixK;by_cases e:x=a;rw[Gw e];simp;rw[D' e,List.length_cons];have:=rF (l:=l) (a:=a) ((List.mem_cons.1 h).elim (λb=>absurd b.symm e) id);omega
end
theorem AP{f g :Type}{h: f -> g}:∀ {l:List f},(l.map h).Nodup->∀ a∈l,∀b∈l,h a=h b->a=b
 | [],_,a,ha,_,_,_=>by cases ha
 |x::l,hn,a,ha,b,hb,e=>by rw[List.map_cons,List.nodup_cons]at hn;rcases List.mem_cons.1 ha with d|d;rcases List.mem_cons.1 hb with c|c;rw[d,c];exact absurd (List.mem_map.2 ⟨b,c,by rw[<-e,d]⟩) hn.1;rcases List.mem_cons.1 hb with c|c;exact absurd (List.mem_map.2 ⟨a,d,by rw[e,c]⟩) hn.1;exact AP hn.2 a d b c e
theorem sY{l:Lg}{f g:Nat->Nat}(n:∀ s∈l,∀t∈l,f s=f t->g s=g t)(p:(dd (l.map f)).length<=(dd (l.map g)).length):∀ s∈l,∀t∈l,g s=g t->f s=f t:=by
 let pick:Nat->Nat:=λk=>((l.find? λs=>f s=k).getD 0);have m:∀ s∈l,pick (f s)∈l/\f (pick (f s))=f s:=λs a=>by
  show((l.find? λx=>f x=f s).getD 0)∈l/\f ((l.find? λx=>f x=f s).getD 0)=f s;cases b:l.find? (λx=>f x=f s)with
  |none=>have:=List.find?_eq_none.1 b s a;simp at this
  |some y=>have i:=List.find?_some b;have h:=List.mem_of_find?_eq_some b;exact⟨h,by simpa using i⟩
 have d:∀ s∈l,g (pick (f s))=g s:=λs a=>n _ (m s a).1 _ a (m s a).2;have c:((dd (l.map f)).map λk=>g (pick k)).Nodup:=vu (l:=dd (l.map g)) (xf _) (λk o=>by obtain⟨s,a,rfl⟩:=List.mem_map.1 (dd_mem.1 o);exact List.mem_map.2 ⟨f s,dd_mem.2 (List.mem_map.2 ⟨s,a,rfl⟩),d s a⟩) (by rw[List.length_map];exact p)
 intro s a t j e;have i:f s∈dd (l.map f):=dd_mem.2 (List.mem_map.2 ⟨s,a,rfl⟩);have h:f t∈dd (l.map f):=dd_mem.2 (List.mem_map.2 ⟨t,j,rfl⟩);exact AP c _ i _ h (by rw[d s a,d t j,e])
section
variable (δ :Nat->Nat->Nat) (nb:Nat) (l:Lg)
def keyM(cl:Nat->Nat)(s:Nat):Nat×Lg:=(cl s,(List.range nb).map λb=>cl (δ s b))
def eY(cl:Nat->Nat)(s:Nat):Nat:=ixK (dd (l.map (keyM δ nb cl))) (keyM δ nb cl s)
def cntM(cl:Nat->Nat):Nat:=(dd (l.map (keyM δ nb cl))).length
def rndM:Nat->(Nat->Nat)->Nat->(Nat->Nat)×Nat
 |0,cl,c=>(cl,c)
 |f+1,cl,c=>if cntM δ nb l cl=c then(eY δ nb l cl,c)else rndM f (eY δ nb l cl) (cntM δ nb l cl)
variable {δ nb l}
theorem dL{cl:Nat->Nat}{s t:Nat}(d:s∈l)(c:t∈l):eY δ nb l cl s=eY δ nb l cl t↔cl s=cl t/\∀ b,b<nb->cl (δ s b)=cl (δ t b):=by
 unfold eY;have h:keyM δ nb cl s∈dd (l.map (keyM δ nb cl)):=dd_mem.2 (List.mem_map.2 ⟨s,d,rfl⟩);have g:keyM δ nb cl t∈dd (l.map (keyM δ nb cl)):=dd_mem.2 (List.mem_map.2 ⟨t,c,rfl⟩);constructor;intro e;have:=v3 h g e;unfold keyM at this;rw[Prod.mk.injEq]at this;refine⟨this.1,λb a=>?_⟩;have f:=congrArg (λl=>l[b]?) this.2;simpa[a]using f;rintro⟨e1,e2⟩;have:keyM δ nb cl s=keyM δ nb cl t:=by unfold keyM;rw[e1];congr 1;exact List.map_congr_left λb a=>e2 b (by simpa using a)
 rw[this]
theorem cntM_next{cl:Nat->Nat}:(dd (l.map (eY δ nb l cl))).length=cntM δ nb l cl:=by
 have c:=cW (l:=dd (l.map (eY δ nb l cl))) (m:=List.range (cntM δ nb l cl)) (xf _) λk e=>by obtain⟨s,a,rfl⟩:=List.mem_map.1 (dd_mem.1 e);exact List.mem_range.2 (rF (dd_mem.2 (List.mem_map.2 ⟨s,a,rfl⟩)))
 have g:=cW (l:=dd (l.map (keyM δ nb cl))) (m:=(dd (l.map (eY δ nb l cl))).map λk=>keyM δ nb cl ((l.find? λs=>eY δ nb l cl s=k).getD 0)) (xf _) λk e=>by
  obtain⟨s,a,rfl⟩:=List.mem_map.1 (dd_mem.1 e);refine List.mem_map.2 ⟨eY δ nb l cl s,dd_mem.2 (List.mem_map.2 ⟨s,a,rfl⟩),?_⟩;cases d:l.find? (λx=>eY δ nb l cl x=eY δ nb l cl s)with
  |none=>have:=List.find?_eq_none.1 d s a;simp at this
  |some y=>have i:=List.find?_some d;have h:=List.mem_of_find?_eq_some d;have c:=(dL h a).1 (by simpa using i);show keyM δ nb cl y=keyM δ nb cl s;unfold keyM;rw[c.1];congr 1;exact List.map_congr_left λb f=>c.2 b (by simpa using f)
 rw[HL]at c;rw[List.length_map]at g;unfold cntM at c ⊢;omega
theorem uM{acc:Nat->Bool}(n:∀ s∈l,∀b,b<nb-> δ s b∈l):∀ (f:Nat) {cl:Nat->Nat}{c:Nat},(∀s∈l,∀t∈l,Eqv δ nb acc s t->cl s=cl t)->(∀s∈l,∀t∈l,cl s=cl t->acc s=acc t)->(c=(dd (l.map cl)).length∨c=0/\l≠[])->l.length+2<=f+c->
 (∀s∈l,∀t∈l,((rndM δ nb l f cl c).1 s=(rndM δ nb l f cl c).1 t↔Eqv δ nb acc s t))/\(∀s∈l,(rndM δ nb l f cl c).1 s<(rndM δ nb l f cl c).2)/\(rndM δ nb l f cl c).2=(dd (l.map (rndM δ nb l f cl c).1)).length
 |0,cl,c,_,_,h,hf=>by rcases h with h|⟨h,_⟩;have:=cW (l:=dd (l.map cl)) (m:=l.map cl) (xf _) λk o=>dd_mem.1 o;rw[List.length_map]at this;omega;omega
 | f+1,cl,c,h1,h2,h,hf=>by
  have u:∀ s∈l,∀t∈l,Eqv δ nb acc s t->eY δ nb l cl s=eY δ nb l cl t:=λs a t d e=>(dL a d).2 ⟨h1 s a t d e,λb j=>h1 _ (n s a b j) _ (n t d b j) (e.next j)⟩;have A:∀ s∈l,∀t∈l,eY δ nb l cl s=eY δ nb l cl t->acc s=acc t:=λs a t d e=>h2 s a t d ((dL a d).1 e).1;unfold rndM;by_cases i:cntM δ nb l cl=c;rw[Gw i];have q:c=(dd (l.map cl)).length:=by rcases h with h|⟨h,v⟩;exact h;exfalso;obtain⟨s,a⟩:=List.exists_mem_of_ne_nil _ v;have:keyM δ nb cl s∈dd (l.map (keyM δ nb cl)):=dd_mem.2 (List.mem_map.2 ⟨s,a,rfl⟩);have:=Iv this;unfold cntM at i;omega
  have p:=sY (l:=l) (f:=eY δ nb l cl) (g:=cl) (λs a t d e=>((dL a d).1 e).1) (by rw[cntM_next,i,q];exact Nat.le_refl _);refine⟨λs a t d=>⟨λe=>?_,u s a t d⟩,λs a=>?_,by rw[cntM_next,i]⟩;have x:cl s=cl t:=((dL a d).1 e).1;intro w;clear e;induction w generalizing s t with
  |nil=>exact λ_=>h2 s a t d x
  |cons b w y=>intro r;have j:=r b List.mem_cons_self;exact y _ (n s a b j) _ (n t d b j) (((dL a d).1 (p s a t d x)).2 b j) λk o=>r k (List.mem_cons_of_mem _ o)
  rw[<-i];exact rF (dd_mem.2 (List.mem_map.2 ⟨s,a,rfl⟩));rw[D' i];have z:c<cntM δ nb l cl:=by
   rcases h with h|⟨h,v⟩;have:=cW (l:=dd (l.map cl)) (m:=(dd (l.map (keyM δ nb cl))).map (·.1)) (xf _) λk o=>by obtain⟨s,a,rfl⟩:=List.mem_map.1 (dd_mem.1 o);exact List.mem_map.2 ⟨keyM δ nb cl s,dd_mem.2 (List.mem_map.2 ⟨s,a,rfl⟩),rfl⟩
   rw[List.length_map]at this;unfold cntM at i ⊢;omega;omega
  exact uM n f u A (.inl cntM_next.symm) (by omega)
end
section
variable {K M:Type}[DecidableEq K] [DecidableEq M]
def bfsK(sc:K->List K):Nat->List K->Nat->List K
 |0,q,_=>q
 | f+1,q,i=>match q[i]? with
   |none=>q
   |some s=>bfsK sc f (ddA q (sc s)) (i+1)
def tabK(sc:K->List K)(ks:List K):List Lg:=ks.map λk=>(sc k).map (ixK ks)
variable {φ :K->M}{P:K->Prop}
theorem qn(c:∀ a b,P a->P b-> φ a= φ b->a=b):∀ (l acc:List K),(∀x∈acc,P x)->(∀x∈l,P x)->ddA (acc.map φ) (l.map φ)=(ddA acc l).map φ /\∀ x∈ddA acc l,P x
 | [],acc,ha,_=>⟨rfl,ha⟩
 | x::l,acc,ha,hl=>by
  have g:=hl x List.mem_cons_self;have d:∀ y∈l,P y:=λy e=>hl y (List.mem_cons_of_mem _ e);rw[List.map_cons];unfold ddA;by_cases h:x∈acc;rw[Gw h,Gw (List.mem_map.2 ⟨x,h,rfl⟩)];exact qn c l acc ha d;rw[D' h,D' (λk=>by obtain⟨y,i,j⟩:=List.mem_map.1 k;exact h (c y x (ha y i) g j▸i))]
  have:=qn c l (acc++[x]) (λy e=>by rcases List.mem_append.1 e with f|f;exact ha y f;rw[List.mem_singleton.1 f];exact g) d
  rw[List.map_append]at this;exact this
theorem sG(c:∀ a b,P a->P b-> φ a= φ b->a=b){sc:K->List K}{sc2:M->List M}(e:∀ k,P k->sc2 (φ k)=(sc k).map φ)(g:∀ k,P k->∀ x∈sc k,P x):∀ (f:Nat) (q:List K) (i:Nat),(∀x∈q,P x)->bfsK sc2 f (q.map φ) i=(bfsK sc f q i).map φ /\∀ x∈bfsK sc f q i,P x
 |0,q,i,hq=>⟨rfl,hq⟩
 | f+1,q,i,hq=>by
  unfold bfsK;rw[List.getElem?_map];cases h:q[i]? with
  |none=>exact⟨rfl,hq⟩
  |some s=>have d:=hq s (List.mem_of_getElem? h);simp only[Option.map_some];rw[e s d];obtain⟨l,j⟩:=qn c (sc s) q hq (g s d);rw[l];exact sG c e g f _ _ j
theorem vZ(c:∀ a b,P a->P b-> φ a= φ b->a=b):∀ (ks:List K) (k:K),(∀x∈ks,P x)->P k->ixK (ks.map φ) (φ k)=ixK ks k
 | [],k,_,_=>rfl
 |x::ks,k,h,hk=>by rw[List.map_cons];unfold ixK;by_cases e:x=k;rw[Gw e,Gw (by rw[e])];rw[D' e,D' (λf=>e (c x k (h x List.mem_cons_self) hk f)),vZ c ks k (λy d=>h y (List.mem_cons_of_mem _ d)) hk]
theorem yi(c:∀ a b,P a->P b-> φ a= φ b->a=b){sc:K->List K}{sc2:M->List M}(f:∀ k,P k->sc2 (φ k)=(sc k).map φ)(g:∀ k,P k->∀ x∈sc k,P x){ks:List K}(h:∀ x∈ks,P x):tabK sc2 (ks.map φ)=tabK sc ks:=by unfold tabK;rw[List.map_map];refine List.map_congr_left λk d=>?_;show(sc2 (φ k)).map _=_;rw[f k (h k d),List.map_map];exact List.map_congr_left λx e=>vZ c ks x h (g k (h k d) x e)
end
abbrev Lang:=Lg->Bool
noncomputable instance:DecidableEq Lang:=λa b=>Classical.propDecidable (a=b)
variable {acc:Nat->Bool}{δ:Nat->Nat->Nat}
def scL(nb:Nat)(L:Lang):List Lang:=(List.range nb).map λc w=>L (c::w)
theorem ri{K:Type}[DecidableEq K]{nb:Nat}{c:K->Lang}{sc:K->List K}{P:K->Prop}(e:∀ a b,P a->P b->c a=c b->a=b)(i:∀ k,P k->(sc k).map c=scL nb (c k))(j:∀ k,P k->∀ x∈sc k,P x){d:K}(n:P d)(f:Nat):
 bfsK (scL nb) f [c d] 0=(bfsK sc f [d] 0).map c/\tabK (scL nb) (bfsK (scL nb) f [c d] 0)=tabK sc (bfsK sc f [d] 0):=by obtain⟨g,m⟩:=sG (φ :=c) (sc2:=scL nb) e (λk h=>(i k h).symm) j f [d] 0 (λx l=>by rw[List.mem_singleton.1 l];exact n);have g:bfsK (scL nb) f [c d] 0=(bfsK sc f [d] 0).map c:=g;refine⟨g,?_⟩;rw[g];exact yi e (λk h=>(i k h).symm) j m
theorem yX{g e:Type}[DecidableEq g][DecidableEq e]{nb:Nat}{d:g->Lang}{l2:e->Lang}{c:g->List g}{sc2:e->List e}{P1:g->Prop}{P2:e->Prop}
 (i:∀ a b,P1 a->P1 b->d a=d b->a=b) (n:∀ k,P1 k->(c k).map d=scL nb (d k)) (p:∀ k,P1 k->∀ x∈c k,P1 x) {l:g}(t:P1 l)
 (h:∀ a b,P2 a->P2 b->l2 a=l2 b->a=b) (m:∀ k,P2 k->(sc2 k).map l2=scL nb (l2 k)) (o:∀ k,P2 k->∀ x∈sc2 k,P2 x) {j:e}(s:P2 j) (r:d l=l2 j) (f:Nat):
 tabK c (bfsK c f [l] 0)=tabK sc2 (bfsK sc2 f [j] 0)/\(bfsK c f [l] 0).map d=(bfsK sc2 f [j] 0).map l2:=by obtain⟨v,u⟩:=ri i n p t f;obtain⟨q,b2⟩:=ri h m o s f;rw[<-r]at q b2;exact⟨u.symm.trans b2,v.symm.trans q⟩
def hd(s:HS)(b:Nat):Nat:=(mN s.mem b).headD 0
theorem kP{n:Nat}{s:HS}(h:PV n s){b:Nat}(c:b<s.mem.length):hd s b<n/\oN s.of (hd s b)=b:=by
 have a:=h.ne b c;refine(h.iff b c _).1 ?_;unfold hd;cases d:mN s.mem b with
 |nil=>exact absurd d a
 |cons x l=>exact List.mem_cons_self
def bH(δ :Nat->Nat->Nat)(cls:Nat->Nat)(acc:Nat->Bool)(x:Nat):Lang:=λw=>acc (runW δ x (w.map cls))
def scB(δ :Nat->Nat->Nat)(cls:Nat->Nat)(s:HS)(b:Nat):Lg:=(List.range 256).map λc=>oN s.of (δ (hd s b) (cls c))
theorem jk{cls:Nat->Nat}{nc:Nat}(b:∀ c,cls c<nc)(f:∀ k,k<nc->∃ c,cls c=k){x y:Nat}:bH δ cls acc x=bH δ cls acc y↔Eqv δ nc acc x y:=by
 constructor;intro h w d;have:∃ a:Lg,a.map cls=w:=by
  clear h;induction w with
  |nil=>exact⟨[],rfl⟩
  |cons k w e=>obtain⟨a,l⟩:=e λj i=>d j (List.mem_cons_of_mem _ i);obtain⟨c,b⟩:=f k (d k List.mem_cons_self);exact⟨c::a,by rw[List.map_cons,b,l]⟩
 obtain⟨a,rfl⟩:=this;exact congrFun h a;intro h;funext w;exact h _ λk g=>by obtain⟨c,_,rfl⟩:=List.mem_map.1 g;exact b c
theorem lN{cls:Nat->Nat}{n nc:Nat}{s:HS}(g :∀ x,x<n->∀ c,c<nc-> δ x c<n)(j:∀ c,cls c<nc)(d:∀ k,k<nc->∃ c,cls c=k)(f:PV n s)(m:∀ x,x<n->∀ y,y<n->(oN s.of x=oN s.of y↔Eqv δ nc acc x y)):
 (∀a b,a<s.mem.length->b<s.mem.length->bH δ cls acc (hd s a)=bH δ cls acc (hd s b)->a=b)/\
 (∀b,b<s.mem.length->(scB δ cls s b).map (λk=>bH δ cls acc (hd s k))=scL 256 (bH δ cls acc (hd s b)))/\
 (∀b,b<s.mem.length->∀ x∈scB δ cls s b,x<s.mem.length):=by refine⟨λa b t h e=>?_,λb h=>?_,λb h x q=>?_⟩;obtain⟨u,v⟩:=kP f t;obtain⟨i,b2⟩:=kP f h;have:=(m _ u _ i).2 ((jk j d).1 e);omega;obtain⟨i,b2⟩:=kP f h;unfold scB scL;rw[List.map_map];refine List.map_congr_left λc _=>?_;have l:=g _ i _ (j c);have r:=f.lt _ l;obtain⟨p,o⟩:=kP f r;exact(jk j d).2 ((m _ p _ l).1 o);obtain⟨i,_⟩:=kP f h;obtain⟨c,_,rfl⟩:=List.mem_map.1 q;exact f.lt _ (g _ i _ (j c))
def repM(l:Lg)(cl:Nat->Nat)(k:Nat):Nat:=(l.find? λs=>cl s=k).getD 0
theorem fP{l:Lg}{cl:Nat->Nat}{k:Nat}(h:∃ s∈l,cl s=k):repM l cl k∈l/\cl (repM l cl k)=k:=by
 obtain⟨s,b,e⟩:=h;unfold repM;cases a:l.find? (λx=>cl x=k)with
 |none=>have:=List.find?_eq_none.1 a s b;simp[e]at this
 |some y=>exact⟨List.mem_of_find?_eq_some a,by simpa using List.find?_some a⟩
def scM(δ :Nat->Nat->Nat)(l:Lg)(cl:Nat->Nat)(k:Nat):Lg:=(List.range 256).map λc=>cl (δ (repM l cl k) c)
theorem kA{l:Lg}{cl:Nat->Nat}(h:∀ s∈l,∀b, δ s b∈l)(i:∀ s∈l,∀t∈l,(cl s=cl t↔bH δ id acc s=bH δ id acc t)):
 (∀a b,(∃s∈l,cl s=a)->(∃s∈l,cl s=b)->bH δ id acc (repM l cl a)=bH δ id acc (repM l cl b)->a=b)/\
 (∀b,(∃s∈l,cl s=b)->(scM δ l cl b).map (λk=>bH δ id acc (repM l cl k))=scL 256 (bH δ id acc (repM l cl b)))/\
 (∀b,(∃s∈l,cl s=b)->∀ x∈scM δ l cl b,∃s∈l,cl s=x):=by refine⟨λa b o d e=>?_,λb d=>?_,λb d x n=>?_⟩;obtain⟨q,p⟩:=fP o;obtain⟨f,b2⟩:=fP d;rw[<-p,<-b2];exact(i _ q _ f).2 e;obtain⟨f,b2⟩:=fP d;unfold scM scL;rw[List.map_map];refine List.map_congr_left λc _=>?_;have g:=h _ f c;obtain⟨m,j⟩:=fP (l:=l) (cl:=cl) ⟨_,g,rfl⟩;exact(i _ m _ g).1 j;obtain⟨f,_⟩:=fP d;obtain⟨c,_,rfl⟩:=List.mem_map.1 n;exact⟨_,h _ f c,rfl⟩
section
variable {δ :Nat->Nat->Nat}{l:Lg}
end
end Go.HK
