/- A part of the proof. -/
import Derived.Test.YtegefclhhjbfhaaGreatDoorA
set_option linter.unusedVariables false
set_option linter.unusedSimpArgs false
namespace Go.HK
theorem _root_.Go.I7:type_of% @List.length_pos_of_mem:=@List.length_pos_of_mem
section
variable {α :Type}[DecidableEq α]
theorem cf:∀ {l m:List α},l.Nodup->(∀x∈l,x∈m)->l.length<=m.length
 | [],m,_,_=>Nat.zero_le _
 |x::l,m,h,hs=>by rw[List.nodup_cons]at h;have b:=hs x List.mem_cons_self;have c:=cf (l:=l) (m:=m.erase x) h.2 λy a=>(List.mem_erase_of_ne (λ(e:y=x)=>h.1 (by rw[<-e];exact a))).2 (hs y (List.mem_cons_of_mem _ a));grind
theorem vH{l m:List α}(h:l.Nodup)(c:∀ x∈l,x∈m)(f:m.length<=l.length):∀ x∈m,x∈l:=λx b=>by refine Classical.byContradiction λd=>?_;have:=cf (l:=x::l) (m:=m) (List.nodup_cons.2 ⟨d,h⟩) λy a=>(List.mem_cons.1 a).elim (λe=>e▸b) (c y);rw[List.length_cons]at this;omega
theorem vI:∀ {l m:List α},l.Nodup->(∀x∈l,x∈m)->m.length<=l.length->m.Nodup
 | [],m,_,_,hl=>by grind
 |x::l,m,h,hs,hl=>by have b:=(List.nodup_cons.1 h).1;have c:=(List.nodup_cons.1 h).2;have f:=hs x List.mem_cons_self;have g:=List.length_erase_of_mem f;have i:=I7 f;rw[List.length_cons]at hl;have a:∀ y∈l,y∈m.erase x:=λy d=>(List.mem_erase_of_ne (λ(e:y=x)=>b (by rw[<-e];exact d))).2 (hs y (List.mem_cons_of_mem _ d));have j:=vI c a (by omega);grind [vH,List.perm_cons_erase,List.nodup_cons]
end
variable {st:Lg}{b n:Nat}
structure HS where
 of:Lg
 mem:List Lg
 work:Lg
 wt:Nat->Bool
abbrev oN(l:Lg)(x:Nat):Nat:=l.getD x 0
abbrev mN(m:List Lg)(b:Nat):Lg:=m.getD b []
def cut1(s:HS)(fresh old:Nat):HS:=
 let nx:=if s.wt old=false/\(mN s.mem old).length<(mN s.mem fresh).length then old else fresh
 ⟨s.of,s.mem,s.work++[nx],λk=>if k=nx then true else s.wt k⟩
def setAll(f:Nat):Lg->Lg->Lg
 | [],o=>o
 |s::l,o=>setAll f l (o.set s f)
def jL(part:Lg)(b:Nat)(s:HS):HS:=
 if part.length=(mN s.mem b).length then s else
  cut1 ⟨setAll s.mem.length part s.of,(s.mem++[part]).set b ((mN s.mem b).filter λx=>oN (setAll s.mem.length part s.of) x≠s.mem.length),s.work,s.wt⟩ s.mem.length b
def metL(of:Lg):Lg->Lg->Lg
 | [],acc=>acc
 |x::l,acc=>metL of l (if oN of x∈acc then acc else acc++[oN of x])
def tZ(st of:Lg):Lg->HS->HS
 | [],t=>t
 |b::l,t=>tZ st of l (jL (st.filter λx=>oN of x=b) b t)
def dJ(a:Lg)(s:HS):HS:=tZ a s.of (metL s.of a []) s
structure PV (n:Nat) (s:HS):Prop where
 len:s.of.length=n
 lt:∀ x,x<n->oN s.of x<s.mem.length
 iff:∀ b,b<s.mem.length->∀ x,x∈mN s.mem b↔x<n/\oN s.of x=b
 nd:∀ b,b<s.mem.length->(mN s.mem b).Nodup
 ne:∀ b,b<s.mem.length->mN s.mem b≠[]
theorem kZ(f:Nat):∀ (l o:Lg),(setAll f l o).length=o.length
 | [],o=>rfl
 |s::l,o=>by unfold setAll;rw[kZ f l];simp
theorem set_at{o:Lg}{s f x:Nat}(h:s<o.length):oN (o.set s f) x=if x=s then f else oN o x:=by grind
theorem nK(f:Nat):∀ {l o:Lg},(∀s∈l,s<o.length)->∀ x,oN (setAll f l o) x=if x∈l then f else oN o x
 | [],o,_,x=>by simp[setAll]
 |s::l,o,h,x=>by unfold setAll;rw[nK f (λt a=>by grind) x,set_at (h s List.mem_cons_self)];grind
theorem mN_app(m:List Lg)(p:Lg)(b:Nat):mN (m++[p]) b=if b=m.length then p else mN m b:=by grind
theorem mN_set{m:List Lg}{p:Lg}(h:b<m.length)(k:Nat):mN (m.set b p) k=if k=b then p else mN m k:=by grind
structure S1 (n:Nat) (part:Lg) (b:Nat) (s t:HS):Prop where
 pv:PV n t
 of:∀ x,x<n->∀ y,y<n->(oN t.of x=oN t.of y↔oN s.of x=oN s.of y/\(oN s.of x=b->(x∈part↔y∈part)))
 keep:∀ x,x<n->oN s.of x≠b->oN t.of x=oN s.of x
 mem:∀ k,k<s.mem.length->k≠b->mN t.mem k=mN s.mem k
 le:s.mem.length<=t.mem.length
 wt:∀ x,x<n->s.wt (oN s.of x)=true->t.wt (oN t.of x)=true
 sep:∀ x,x<n->∀ y,y<n->oN s.of x=oN s.of y->oN t.of x≠oN t.of y->t.wt (oN t.of x)=true∨t.wt (oN t.of y)=true
 wk:(∀k,s.wt k=true->k∈s.work)->∀ k,t.wt k=true->k∈t.work
 wl:(∀k∈s.work,k<s.mem.length)->∀ k∈t.work,k<t.mem.length
 ms:t.work.length+s.mem.length=s.work.length+t.mem.length
theorem uO{part:Lg}{s:HS}(h:PV n s)(j:b<s.mem.length)(m:part≠[])(o:part.Nodup)(v:∀ x∈part,x∈mN s.mem b):S1 n part b s (jL part b s):=by
 unfold jL;by_cases C:part.length=(mN s.mem b).length;rw[Ht C];have d:∀ x,x∈mN s.mem b->x∈part:=by exact vH o v (by omega)
 refine⟨h,λx a y l=>⟨λe=>⟨e,λG=>⟨λ_=>d y ((h.iff b j y).2 ⟨l,e▸G⟩),λ_=>d x ((h.iff b j x).2 ⟨a,G⟩)⟩⟩,λe=>e.1⟩,λ_ _ _=>rfl,λ_ _ _=>rfl,Nat.le_refl _,λ_ _ h=>h,λx _ y _ e I=>absurd e I,λh=>h,λh=>h,rfl⟩
 · rw[Hm C];have z:∀ x∈part,x<n:=λx a=>((h.iff b j x).1 (v x a)).1;have A:∀ x∈part,x<s.of.length:=λx a=>by rw[h.len];exact z x a
   have K:∀ x∈part,oN s.of x=b:=λx a=>((h.iff b j x).1 (v x a)).2;have q:=nK s.mem.length A;generalize B:setAll s.mem.length part s.of=of2 at*;have p:of2.length=n:=by rw[<-B,kZ];exact h.len
   have O:∀ x,x∈(mN s.mem b).filter (λx=>oN of2 x≠s.mem.length)↔x<n/\oN s.of x=b/\¬ x∈part:=by intro x;rw[List.mem_filter,h.iff b j x,q x];grind
   have c:∀ k,mN ((s.mem++[part]).set b ((mN s.mem b).filter λx=>oN of2 x≠s.mem.length)) k=if k=b then(mN s.mem b).filter (λx=>oN of2 x≠s.mem.length)else if k=s.mem.length then part else mN s.mem k:=λk=>by rw[mN_set (by simp;omega),mN_app]
   have i:((s.mem++[part]).set b ((mN s.mem b).filter λx=>oN of2 x≠s.mem.length)).length=s.mem.length+1:=by simp
   generalize M:(s.mem++[part]).set b ((mN s.mem b).filter λx=>oN of2 x≠s.mem.length)=mem2 at*;have D:∃ y,y∈mN s.mem b/\¬ y∈part:=by refine Classical.byContradiction λP=>C ?_;have d:∀ y∈mN s.mem b,y∈part:=λy l=>Classical.byContradiction λw=>P ⟨y,l,w⟩;have r:=cf o v;have w:=cf (h.nd b j) d;omega
   have f:∀ x,x<n->oN of2 x=if x∈part then s.mem.length else oN s.of x:=λx _=>q x;have t:PV n ⟨of2,mem2,s.work,s.wt⟩:=by
    refine⟨p,λx a=>?_,λk g x=>?_,λk g=>?_,λk g=>?_⟩;show oN of2 x<mem2.length;rw[f x a,i];have:=h.lt x a;split<;>omega;show x∈mN mem2 k↔x<n/\oN of2 x=k;have g:k<s.mem.length+1:=by rw[<-i];exact g
    rw[c k,q x];by_cases Q:k=b;grind;rw[Hm Q];by_cases H:k=s.mem.length;rw[Ht H];by_cases a:x∈part;grind;rw[Hm a];refine⟨λr=>absurd r a,λ⟨r,w⟩=>?_⟩;have:=h.lt x r;omega;rw[Hm H,h.iff k (by omega) x];grind;show(mN mem2 k).Nodup;have g:k<s.mem.length+1:=by rw[<-i];exact g
    rw[c k];split;exact(h.nd b j).filter _;split;exact o;exact h.nd k (by omega);show mN mem2 k≠[];have g:k<s.mem.length+1:=by rw[<-i];exact g
    rw[c k];split;obtain⟨y,r,w⟩:=D;have U:=(h.iff b j y).1 r;grind;split;exact m;exact h.ne k (by omega)
   have u:∀ x,x<n->∀ y,y<n->(oN of2 x=oN of2 y↔oN s.of x=oN s.of y/\(oN s.of x=b->(x∈part↔y∈part))):=by intro x a y l;rw[f x a,f y l];have S:=h.lt x a;have R:=h.lt y l;grind
   have J:mN mem2 s.mem.length=part:=by rw[c,Hm (by omega),Ht rfl]
   unfold cut1;simp only;generalize L:(if s.wt b=false/\(mN mem2 b).length<(mN mem2 s.mem.length).length then b else s.mem.length)=nx;have F:nx=b/\s.wt b=false∨nx=s.mem.length:=by grind
   refine⟨⟨t.len,t.lt,t.iff,t.nd,t.ne⟩,u,λx a m=>?_,λk g N=>?_,?_,λx a E=>?_,λx a y l e m=>?_,λE k g=>?_,λE k g=>?_,?_⟩;all_goals grind
theorem gK(of:Lg):∀ (st acc:Lg) (b:Nat),b∈metL of st acc↔b∈acc∨∃ x∈st,oN of x=b
 | [],acc,b=>by simp[metL]
 |x::l,acc,b=>by unfold metL;rw[gK of l];grind
theorem pD(of:Lg):∀ (st acc:Lg),acc.Nodup->(metL of st acc).Nodup
 | [],acc,h=>h
 |x::l,acc,h=>by unfold metL;refine pD of l _ ?_;grind
structure FP (n:Nat) (st:Lg) (s t:HS) (D:Lg):Prop where
 pv:PV n t
 of:∀ x,x<n->∀ y,y<n->(oN t.of x=oN t.of y↔oN s.of x=oN s.of y/\(oN s.of x∈D->(x∈st↔y∈st)))
 keep:∀ x,x<n->¬ oN s.of x∈D->oN t.of x=oN s.of x
 mem:∀ k,k<s.mem.length->¬ k∈D->mN t.mem k=mN s.mem k
 le:s.mem.length<=t.mem.length
 wt:∀ x,x<n->s.wt (oN s.of x)=true->t.wt (oN t.of x)=true
 sep:∀ x,x<n->∀ y,y<n->oN s.of x=oN s.of y->oN t.of x≠oN t.of y->t.wt (oN t.of x)=true∨t.wt (oN t.of y)=true
 wk:(∀k,s.wt k=true->k∈s.work)->∀ k,t.wt k=true->k∈t.work
 wl:(∀k∈s.work,k<s.mem.length)->∀ k∈t.work,k<t.mem.length
 ms:t.work.length+s.mem.length=s.work.length+t.mem.length
theorem FP.init{s:HS}(h:PV n s):FP n st s s []:=
 ⟨h,λx _ y _=>⟨λe=>⟨e,λh=>by cases h⟩,λe=>e.1⟩,λ_ _ _=>rfl,λ_ _ _=>rfl,Nat.le_refl _,λ_ _ h=>h,λ_ _ _ _ e a=>absurd e a,λh=>h,λh=>h,rfl⟩
theorem FP.step{s t:HS}{D:Lg}(C:PV n s)(h:FP n st s t D)(v:b<s.mem.length)(z:¬ b∈D)(m:∀ x∈st,x<n)(q:st.Nodup)(F:∃ x∈st,oN s.of x=b):
 FP n st s (jL (st.filter λx=>oN s.of x=b) b t) (b::D):=by
 have i:b<t.mem.length:=Nat.lt_of_lt_of_le v h.le;have f:∀ x,x∈(st.filter λx=>oN s.of x=b)↔x∈st/\oN s.of x=b:=λx=>by rw[List.mem_filter];simp
 have r:=h.mem b v z;have g:∀ x,x<n->(oN t.of x=b↔oN s.of x=b):=λx a=>by constructor;intro e;have:=(h.pv.iff b i x).2 ⟨a,e⟩;rw[r]at this;exact((C.iff b v x).1 this).2;intro e;rw[h.keep x a (by rw[e];exact z),e]
 have c:=uO (part:=st.filter λx=>oN s.of x=b) h.pv i (by
  grind) (q.filter _) (λx a=>by
  obtain⟨l,p⟩:=(f x).1 a;exact(h.pv.iff b i x).2 ⟨m x l,(g x (m x l)).2 p⟩)
 generalize jL (st.filter λx=>oN s.of x=b) b t=u at*;have E:=c.le;refine⟨c.pv,λx a y j=>?_,λx a o=>?_,λk w o=>?_,Nat.le_trans h.le c.le,λx a d=>c.wt x a (h.wt x a d),λx a y j e B=>?_,λd=>c.wk (h.wk d),λd=>c.wl (h.wl d),?_⟩;rw[c.of x a y j,h.of x a y j,g x a,f,f];grind;have l:¬ oN s.of x=b:=λe=>o (by rw[e];exact List.mem_cons_self);have p:¬ oN s.of x∈D:=λe=>o (List.mem_cons_of_mem _ e);rw[c.keep x a (λe=>l ((g x a).1 e)),h.keep x a p];have l:k≠b:=λe=>o (by rw[e];exact List.mem_cons_self);have p:¬ k∈D:=λe=>o (List.mem_cons_of_mem _ e);rw[c.mem k (Nat.lt_of_lt_of_le w h.le) l,h.mem k w p];by_cases A:oN t.of x=oN t.of y;exact c.sep x a y j A B;rcases h.sep x a y j e A with d|d;exact .inl (c.wt x a d);exact .inr (c.wt y j d);have:=h.ms;have:=c.ms;omega
theorem rX{n:Nat}{st:Lg}{s:HS}(e:PV n s)(a:∀ x∈st,x<n)(c:st.Nodup):∀ (L:Lg) {t:HS}{D:Lg},FP n st s t D->L.Nodup->(∀b∈L,¬b∈D/\b<s.mem.length/\∃ x∈st,oN s.of x=b)->∃ d,(∀b,b∈d↔b∈D∨b∈L)/\FP n st s (tZ st s.of L t) d
 | [],t,D,h,_,_=>⟨D,λb=>by simp,h⟩
 | b::L,t,D,h,hL,hb=>by
  rw[List.nodup_cons]at hL;obtain⟨i,b2,g⟩:=hb b List.mem_cons_self;obtain⟨d,l,f⟩:=rX e a c L (h.step e b2 i a c g) hL.2 (λk j=>by grind)
  refine⟨d,λk=>?_,f⟩;grind
structure SS (n:Nat) (st:Lg) (s t:HS):Prop where
 pv:PV n t
 of:∀ x,x<n->∀ y,y<n->(oN t.of x=oN t.of y↔oN s.of x=oN s.of y/\(x∈st↔y∈st))
 wt:∀ x,x<n->s.wt (oN s.of x)=true->t.wt (oN t.of x)=true
 sep:∀ x,x<n->∀ y,y<n->oN s.of x=oN s.of y->oN t.of x≠oN t.of y->t.wt (oN t.of x)=true∨t.wt (oN t.of y)=true
 wk:(∀k,s.wt k=true->k∈s.work)->∀ k,t.wt k=true->k∈t.work
 wl:(∀k∈s.work,k<s.mem.length)->∀ k∈t.work,k<t.mem.length
 ms:t.work.length+s.mem.length=s.work.length+t.mem.length
 le:s.mem.length<=t.mem.length
theorem dI{s:HS}(d:PV n s)(c:∀ x∈st,x<n)(f:st.Nodup):SS n st s (dJ st s):=by
 obtain⟨D,k,a⟩:=rX d c f (metL s.of st []) (FP.init d) (pD _ _ _ (by simp)) (λb j=>by rcases(gK _ _ _ _).1 j with h|⟨x,h,e⟩;cases h;exact⟨by simp,e▸d.lt x (c x h),x,h,e⟩)
 have l:∀ b,b∈D↔∃ x∈st,oN s.of x=b:=λb=>by rw[k,gK];simp
 refine⟨a.pv,λx i y g=>?_,a.wt,a.sep,a.wk,a.wl,a.ms,a.le⟩;show oN (tZ st s.of (metL s.of st []) s).of x=oN (tZ st s.of (metL s.of st []) s).of y↔_;rw[a.of x i y g];grind
section
variable (δ :Nat->Nat->Nat) (n nc:Nat)
def bk(c z:Nat):Lg:=(List.range n).filter λt=> δ t c=z
def dV(own:Lg):Lg->HS->HS
 | [],s=>s
 |c::l,s=>dV own l (dJ (own.flatMap (bk δ n c)) s)
def popH(s:HS)(b:Nat):HS:=⟨s.of,s.mem,s.work.dropLast,λk=>if k=b then false else s.wt k⟩
def iy:Nat->HS->HS
 |0,s=>s
 | f+1,s=>match s.work.getLast? with
   |none=>s
   |some b=>iy f (dV δ n (mN s.mem b) (List.range nc) (popH s b))
variable {δ n nc}
variable {c:Nat}{acc:Nat->Bool}
theorem bk_mem{z t:Nat}:t∈bk δ n c z↔t<n/\ δ t c=z:=by unfold bk;rw[List.mem_filter];simp
theorem from_mem{t:Nat}{own:Lg}:t∈own.flatMap (bk δ n c)↔t<n/\ δ t c∈own:=by rw[List.mem_flatMap];constructor;grind [bk_mem];rintro⟨h1,h2⟩;exact⟨_,h2,bk_mem.2 ⟨h1,rfl⟩⟩
theorem mU{c:Nat}:∀ {own:Lg},own.Nodup->(own.flatMap (bk δ n c)).Nodup
 | [],_=>by simp
 |z::l,h=>by rw[List.nodup_cons]at h;rw[List.flatMap_cons];refine List.nodup_append.2 ⟨List.nodup_range.filter _,mU h.2,λa e b d=>?_⟩;grind [bk_mem,from_mem]
structure LP (E:Nat->Nat->Prop) (acc:Nat->Bool) (own:Lg) (c0:Nat) (s:HS):Prop where
 pv:PV n s
 inv:∀ x,x<n->∀ y,y<n->oN s.of x=oN s.of y->∀ c,c<nc->oN s.of (δ x c)≠oN s.of (δ y c)->s.wt (oN s.of (δ x c))=true∨s.wt (oN s.of (δ y c))=true∨(c0<=c/\¬ (δ x c∈own↔ δ y c∈own))
 co:∀ x,x<n->∀ y,y<n->E x y->oN s.of x=oN s.of y
 ac:∀ x,x<n->∀ y,y<n->oN s.of x=oN s.of y->acc x=acc y
 wk:∀ k,s.wt k=true->k∈s.work
 wl:∀ k∈s.work,k<s.mem.length
theorem qG{E:Nat->Nat->Prop}{acc:Nat->Bool}(g :∀ x,x<n->∀ c,c<nc-> δ x c<n)(v:∀ x,x<n->∀ y,y<n->E x y->∀ c,c<nc->E (δ x c) (δ y c)){own:Lg}(f:own.Nodup)(q:∀ x,x<n->∀ y,y<n->E x y->(x∈own↔y∈own)):
 ∀(k c0:Nat) {s:HS},c0+k=nc->LP (δ := δ) (n:=n) (nc:=nc) E acc own c0 s->LP (δ := δ) (n:=n) (nc:=nc) E acc own nc (dV δ n own (List.range' c0 k) s)/\(dV δ n own (List.range' c0 k) s).work.length+s.mem.length=s.work.length+(dV δ n own (List.range' c0 k) s).mem.length
 | 0,c0,s,hk,h=>by
  obtain rfl:c0=nc:=by omega
  exact⟨h,rfl⟩
 | k+1,c0,s,hk,h=>by
  have C:c0<nc:=by omega
  rw[List.range'_succ];unfold dV;have b:=dI (st:=own.flatMap (bk δ n c0)) h.pv (λx a=>(from_mem.1 a).1) (mU f);generalize dJ (own.flatMap (bk δ n c0)) s=t at*;have r:∀ x,x<n->(x∈own.flatMap (bk δ n c0)↔ δ x c0∈own):=λx a=>by grind [from_mem]
  have w:LP (δ := δ) (n:=n) (nc:=nc) E acc own (c0+1) t:=by
   refine⟨b.pv,λx a y d e c i p=>?_,λx a y d e=>?_,λx a y d e=>h.ac x a y d ((b.of x a y d).1 e).1,b.wk h.wk,b.wl h.wl⟩;obtain⟨A,F⟩:=(b.of x a y d).1 e;have l:=g x a c i;have j:=g y d c i;by_cases o:oN s.of (δ x c)=oN s.of (δ y c);· rcases b.sep _ l _ j o p with m|m;all_goals grind
   rcases h.inv x a y d A c i o with m|m|⟨u,B⟩;exact .inl (b.wt _ l m);exact .inr (.inl (b.wt _ j m));grind;refine(b.of x a y d).2 ⟨h.co x a y d e,?_⟩;grind
  obtain⟨z,D⟩:=qG g v f q k (c0+1) (by omega) w;refine⟨z,?_⟩;have:=b.ms;omega
theorem PV.le{s:HS}(h:PV n s):s.mem.length<=n:=by
 have a:=cf (l:=List.range s.mem.length) (m:=(List.range n).map (oN s.of)) List.nodup_range λb d=>by
  have d:b<s.mem.length:=by simpa using d
  obtain⟨x,e⟩:=List.exists_mem_of_ne_nil _ (h.ne b d);obtain⟨g,f⟩:=(h.iff b d x).1 e;grind
 simpa using a
structure LI (E:Nat->Nat->Prop) (acc:Nat->Bool) (s:HS):Prop where
 pv:PV n s
 inv:∀ x,x<n->∀ y,y<n->oN s.of x=oN s.of y->∀ c,c<nc->oN s.of (δ x c)≠oN s.of (δ y c)->s.wt (oN s.of (δ x c))=true∨s.wt (oN s.of (δ y c))=true
 co:∀ x,x<n->∀ y,y<n->E x y->oN s.of x=oN s.of y
 ac:∀ x,x<n->∀ y,y<n->oN s.of x=oN s.of y->acc x=acc y
 wk:∀ k,s.wt k=true->k∈s.work
 wl:∀ k∈s.work,k<s.mem.length
theorem gV{l:Lg}{b:Nat}(h:l.getLast? =some b):l=l.dropLast++[b]:=by
 have a:l≠[]:=λe=>by rw[e]at h;cases h
 grind [List.dropLast_concat_getLast,List.getLast?_eq_some_getLast,osI]
theorem qS{E:Nat->Nat->Prop}(f :∀ x,x<n->∀ c,c<nc-> δ x c<n)(D:∀ x,x<n->∀ y,y<n->E x y->∀ c,c<nc->E (δ x c) (δ y c)){s:HS}{b:Nat}(h:LI (δ := δ) (n:=n) (nc:=nc) E acc s)(C:s.work.getLast? =some b):
 LI (δ := δ) (n:=n) (nc:=nc) E acc (dV δ n (mN s.mem b) (List.range nc) (popH s b))/\(dV δ n (mN s.mem b) (List.range nc) (popH s b)).work.length+s.mem.length+1=s.work.length+(dV δ n (mN s.mem b) (List.range nc) (popH s b)).mem.length:=by
 have q:=gV C;have o:b<s.mem.length:=h.wl b (by rw[q];simp);have a:∀ z,z<n->(z∈mN s.mem b↔oN s.of z=b):=λz H=>by rw[h.pv.iff b o z];grind
 have r:LP (δ := δ) (n:=n) (nc:=nc) E acc (mN s.mem b) 0 (popH s b):=by
  refine⟨⟨h.pv.len,h.pv.lt,h.pv.iff,h.pv.nd,h.pv.ne⟩,λx i y g e c m l=>?_,h.co,h.ac,λk d=>?_,λk d=>?_⟩;have e:oN s.of x=oN s.of y:=e;have l:oN s.of (δ x c)≠oN s.of (δ y c):=l;have B:=f x i c m;have A:=f y g c m;show(if oN s.of (δ x c)=b then false else s.wt (oN s.of (δ x c)))=true∨(if oN s.of (δ y c)=b then false else s.wt (oN s.of (δ y c)))=true∨_;by_cases G:oN s.of (δ x c)=b;grind;by_cases F:oN s.of (δ y c)=b;grind;· rw[Hm G,Hm F];rcases h.inv x i y g e c m l with p|p;all_goals grind
  have d:(if k=b then false else s.wt k)=true:=d;by_cases u:k=b;rw[Ht u]at d;cases d;rw[Hm u]at d;have:=h.wk k d;rw[q]at this;rcases List.mem_append.1 this with t|t;exact t;exact absurd (by simpa using t) u;refine h.wl k ?_;rw[q];exact List.mem_append.2 (.inl d)
 have v:=qG f D (h.pv.nd b o) (λx i y g e=>by rw[a x i,a y g,h.co x i y g e]) nc 0 (by omega) r;rw[<-List.range_eq_range']at v;obtain⟨j,w⟩:=v;refine⟨⟨j.pv,λx i y g e c m l=>?_,j.co,j.ac,j.wk,j.wl⟩,?_⟩;· rcases j.inv x i y g e c m l with p|p|⟨p,_⟩;all_goals grind
 have w:_+s.mem.length=s.work.dropLast.length+_:=w;grind
theorem vN{E:Nat->Nat->Prop}{acc:Nat->Bool}(a :∀ x,x<n->∀ c,c<nc-> δ x c<n)(e:∀ x,x<n->∀ y,y<n->E x y->∀ c,c<nc->E (δ x c) (δ y c)):
 ∀(f:Nat) {s:HS},LI (δ := δ) (n:=n) (nc:=nc) E acc s->s.work.length+n<f+s.mem.length->LI (δ := δ) (n:=n) (nc:=nc) E acc (iy δ n nc f s)/\(iy δ n nc f s).work=[]
 |0,s,h,hf=>by have:=h.pv.le;omega
 | f+1,s,h,hf=>by
  unfold iy;cases d:s.work.getLast? with
  |none=>exact⟨h,by simpa using d⟩
  |some b=>simp only;obtain⟨g,i⟩:=qS a e h d;exact vN a e f g (by omega)
def runW(δ :Nat->Nat->Nat):Nat->Lg->Nat
 |x,[]=>x
 |x,c::w=>runW δ (δ x c) w
def Eqv(δ :Nat->Nat->Nat)(b:Nat)(a:Nat->Bool)(x y:Nat):Prop:=∀ w:Lg,(∀c∈w,c<b)->a (runW δ x w)=a (runW δ y w)
theorem Eqv.next{x y:Nat}(h:Eqv δ nc acc x y)(d:c<nc):Eqv δ nc acc (δ x c) (δ y c):=λw a=>h (c::w) λk b=>by grind
def gP(n:Nat):HS:=⟨List.replicate n 0,[List.range n],[0],λk=>if k=0 then true else false⟩
def yesL(n:Nat)(a:Nat->Bool):Lg:=(List.range n).filter λx=>a x
def da(δ :Nat->Nat->Nat)(n a:Nat)(b:Nat->Bool):HS:=iy δ n a (n+2) (dJ (yesL n b) (gP n))
theorem iC{x:Nat}(a:x<n):oN (gP n).of x=0:=by show(List.replicate n 0).getD x 0=0;grind
theorem kh(f:0<n):PV n (gP n):=by
 have d:∀ b,b<(gP n).mem.length->b=0:=λb a=>by have a:b<1:=a;omega
 refine⟨by simp[gP],λx e=>by rw[iC e];exact Nat.zero_lt_one,λb a x=>?_,λb a=>?_,λb a=>?_⟩;obtain rfl:=d b a;show x∈List.range n↔_;grind [iC];obtain rfl:=d b a;exact List.nodup_range;obtain rfl:=d b a;show List.range n≠[];grind
theorem wu(q:0<n)(g :∀ x,x<n->∀ c,c<nc-> δ x c<n):LI (δ := δ) (n:=n) (nc:=nc) (Eqv δ nc acc) acc (dJ (yesL n acc) (gP n)):=by
 have m:∀ x,x∈yesL n acc↔x<n/\acc x=true:=λx=>by unfold yesL;rw[List.mem_filter];simp
 have r:=kh q;have f:=dI (st:=yesL n acc) r (λx b=>((m x).1 b).1) (List.nodup_range.filter _);have s:∀ x,x<n->∀ y,y<n->Eqv δ nc acc x y->∀ c,c<nc->Eqv δ nc acc (δ x c) (δ y c):=λx _ y _ h c l=>h.next l
 refine⟨f.pv,λx b y a e c l p=>?_,λx b y a e=>(f.of x b y a).2 ⟨by rw[iC b,iC a],?_⟩,λx b y a e=>?_,f.wk λk d=>?_,f.wl λk d=>?_⟩;have j:=g x b c l;have i:=g y a c l;exact f.sep _ j _ i (by rw[iC j,iC i]) p;rw[m,m];have:=e [] (by simp);have this:acc x=acc y:=this;grind;have:=((f.of x b y a).1 e).2;grind;have d:(if k=0 then true else false)=true:=d;by_cases o:k=0;rw[o];exact List.mem_singleton.2 rfl;rw[Hm o]at d;cases d;have:k=0:=by simpa[gP]using d
 rw[this];exact Nat.zero_lt_one
theorem jx(q:0<n)(a :∀ x,x<n->∀ c,c<nc-> δ x c<n):PV n (da δ n nc acc)/\∀ x,x<n->∀ y,y<n->(oN (da δ n nc acc).of x=oN (da δ n nc acc).of y↔Eqv δ nc acc x y):=by
 have A:=dI (st:=yesL n acc) (kh q) (λx d=>by grind [yesL]) (List.nodup_range.filter _);have o:=wu (δ := δ) (nc:=nc) (acc:=acc) q a;have z:∀ x,x<n->∀ y,y<n->Eqv δ nc acc x y->∀ c,c<nc->Eqv δ nc acc (δ x c) (δ y c):=λx _ y _ h c g=>h.next g
 have C:=A.ms;have u:(gP n).work.length=1:=rfl;have v:(gP n).mem.length=1:=rfl;obtain⟨j,B⟩:=vN (f:=n+2) a z o (by omega);refine⟨j.pv,λx d y b=>⟨λe=>?_,j.co x d y b⟩⟩;have l:∀ x,x<n->∀ y,y<n->oN (da δ n nc acc).of x=oN (da δ n nc acc).of y->∀ c,c<nc->oN (da δ n nc acc).of (δ x c)=oN (da δ n nc acc).of (δ y c):=λx d y t e c g=>Classical.byContradiction λr=>by
  have i:∀ k,¬(da δ n nc acc).wt k=true:=λk m=>by have:=j.wk k m;rw[B]at this;cases this
  rcases j.inv x d y t e c g r with h|h;exact i _ h;exact i _ h
 intro w;induction w generalizing x y with
 |nil=>exact λ_=>j.ac x d y b e
 |cons c w s=>intro p;have g:=p c List.mem_cons_self;exact s _ (a x d c g) _ (a y b c g) (l x d y b e c g) λk m=>p k (List.mem_cons_of_mem _ m)
end
theorem _root_.Go.IN:type_of% @List.length_range:=@List.length_range
section
variable {K:Type}[DecidableEq K]
def ddA:List K->List K->List K
 |acc,[]=>acc
 |acc,x::l=>ddA (if x∈acc then acc else acc++[x]) l
def dd(l:List K):List K:=ddA [] l
theorem qm:∀ (l acc:List K) (k:K),k∈ddA acc l↔k∈acc∨k∈l
 | [],acc,k=>by simp[ddA]
 |x::l,acc,k=>by unfold ddA;rw[qm l];grind
theorem xu:∀ (l acc:List K),acc.Nodup->(ddA acc l).Nodup
 | [],acc,h=>h
 |x::l,acc,h=>by unfold ddA;refine xu l _ ?_;grind
theorem dd_mem{l:List K}{k:K}:k∈dd l↔k∈l:=by unfold dd;rw[qm];simp
theorem m5(l:List K):(dd l).Nodup:=xu l [] (by simp)
def ixK:List K->K->Nat
 | [],_=>0
 |x::l,k=>if x=k then 0 else ixK l k+1
theorem wm:∀ {l:List K}{a b:K},a∈l->b∈l->ixK l a=ixK l b->a=b
 | [],a,b,h,_,_=>by cases h
 | x::l,a,b,ha,hb,h=>by
  unfold ixK at h;by_cases e:x=a;grind;by_cases d:x=b;rw[Hm e,Ht d]at h;omega;rw[Hm e,Hm d]at h;have f:ixK l a=ixK l b:=by omega
  exact wm (l:=l) ((List.mem_cons.1 ha).elim (λc=>absurd c.symm e) id) ((List.mem_cons.1 hb).elim (λc=>absurd c.symm d) id) f
theorem oq:∀ {l:List K}{a:K},a∈l->ixK l a<l.length
 | [],a,h=>by cases h
 |x::l,a,h=>by unfold ixK;by_cases e:x=a;rw[Ht e];simp;rw[Hm e,List.length_cons];have:=oq (l:=l) (a:=a) ((List.mem_cons.1 h).elim (λb=>absurd b.symm e) id);omega
end
theorem Be{c g :Type}{h: c -> g}:∀ {l:List c},(l.map h).Nodup->∀ a∈l,∀b∈l,h a=h b->a=b
 | [],_,a,ha,_,_,_=>by cases ha
 |x::l,hn,a,ha,b,hb,e=>by rw[List.map_cons,List.nodup_cons]at hn;rcases List.mem_cons.1 ha with f|f;grind;rcases List.mem_cons.1 hb with d|d;grind;exact Be hn.2 a f b d e
theorem td{l:Lg}{f g:Nat->Nat}(d:∀ s∈l,∀t∈l,f s=f t->g s=g t)(m:(dd (l.map f)).length<=(dd (l.map g)).length):∀ s∈l,∀t∈l,g s=g t->f s=f t:=by
 let pick:Nat->Nat:=λk=>((l.find? λs=>f s=k).getD 0);have b:∀ s∈l,pick (f s)∈l/\f (pick (f s))=f s:=λs a=>by
  show((l.find? λx=>f x=f s).getD 0)∈l/\f ((l.find? λx=>f x=f s).getD 0)=f s;cases n:l.find? (λx=>f x=f s)with
  |none=>grind
  |some y=>grind
 have j:∀ s∈l,g (pick (f s))=g s:=λs a=>d _ (b s a).1 _ a (b s a).2;have h:((dd (l.map f)).map λk=>g (pick k)).Nodup:=vI (l:=dd (l.map g)) (m5 _) (λk i=>by obtain⟨s,a,rfl⟩:=List.mem_map.1 (dd_mem.1 i);exact List.mem_map.2 ⟨f s,dd_mem.2 (List.mem_map.2 ⟨s,a,rfl⟩),j s a⟩) (by rw[List.length_map];exact m)
 intro s a t c e;have p:f s∈dd (l.map f):=dd_mem.2 (List.mem_map.2 ⟨s,a,rfl⟩);have o:f t∈dd (l.map f):=dd_mem.2 (List.mem_map.2 ⟨t,c,rfl⟩);grind [Be]
section
variable (δ :Nat->Nat->Nat) (nb:Nat) (l:Lg)
def keyM(a:Nat->Nat)(s:Nat):Nat×Lg:=(a s,(List.range nb).map λb=>a (δ s b))
def cE(a:Nat->Nat)(s:Nat):Nat:=ixK (dd (l.map (keyM δ nb a))) (keyM δ nb a s)
def cntM(a:Nat->Nat):Nat:=(dd (l.map (keyM δ nb a))).length
def rndM:Nat->(Nat->Nat)->Nat->(Nat->Nat)×Nat
 |0,cl,c=>(cl,c)
 |f+1,cl,c=>if cntM δ nb l cl=c then(cE δ nb l cl,c)else rndM f (cE δ nb l cl) (cntM δ nb l cl)
variable {δ nb l}
theorem dP{cl:Nat->Nat}{s t:Nat}(c:s∈l)(a:t∈l):cE δ nb l cl s=cE δ nb l cl t↔cl s=cl t/\∀ b,b<nb->cl (δ s b)=cl (δ t b):=by unfold cE;have f:keyM δ nb cl s∈dd (l.map (keyM δ nb cl)):=dd_mem.2 (List.mem_map.2 ⟨s,c,rfl⟩);have d:keyM δ nb cl t∈dd (l.map (keyM δ nb cl)):=dd_mem.2 (List.mem_map.2 ⟨t,a,rfl⟩);constructor;intro e;have:=wm f d e;unfold keyM at this;simp_all;grind [keyM,List.map_congr_left]
theorem cntM_next{cl:Nat->Nat}:(dd (l.map (cE δ nb l cl))).length=cntM δ nb l cl:=by
 have e:=cf (l:=dd (l.map (cE δ nb l cl))) (m:=List.range (cntM δ nb l cl)) (m5 _) λk b=>by obtain⟨s,a,rfl⟩:=List.mem_map.1 (dd_mem.1 b);exact List.mem_range.2 (oq (dd_mem.2 (List.mem_map.2 ⟨s,a,rfl⟩)))
 have d:=cf (l:=dd (l.map (keyM δ nb cl))) (m:=(dd (l.map (cE δ nb l cl))).map λk=>keyM δ nb cl ((l.find? λs=>cE δ nb l cl s=k).getD 0)) (m5 _) λk b=>by
  obtain⟨s,a,rfl⟩:=List.mem_map.1 (dd_mem.1 b);refine List.mem_map.2 ⟨cE δ nb l cl s,dd_mem.2 (List.mem_map.2 ⟨s,a,rfl⟩),?_⟩;cases c:l.find? (λx=>cE δ nb l cl x=cE δ nb l cl s)with
  |none=>grind
  |some y=>grind [List.mem_of_find?_eq_some,dP,keyM,List.map_congr_left]
 grind [IN,List.length_map,cntM]
theorem GC{cl:Nat->Nat}:cntM δ nb l cl<=l.length:=by have:=cf (l:=dd (l.map (keyM δ nb cl))) (m:=l.map (keyM δ nb cl)) (m5 _) λk a=>dd_mem.1 a;simpa[cntM]using this
theorem pn{acc:Nat->Bool}(j:∀ s∈l,∀b,b<nb-> δ s b∈l):∀ (f:Nat) {cl:Nat->Nat}{c:Nat},(∀s∈l,∀t∈l,Eqv δ nb acc s t->cl s=cl t)->(∀s∈l,∀t∈l,cl s=cl t->acc s=acc t)->(c=(dd (l.map cl)).length∨c=0/\l≠[])->l.length+2<=f+c->
 (∀s∈l,∀t∈l,((rndM δ nb l f cl c).1 s=(rndM δ nb l f cl c).1 t↔Eqv δ nb acc s t))/\(∀s∈l,(rndM δ nb l f cl c).1 s<(rndM δ nb l f cl c).2)/\(rndM δ nb l f cl c).2=(dd (l.map (rndM δ nb l f cl c).1)).length
 |0,cl,c,_,_,h,hf=>by rcases h with h|⟨h,_⟩;have:=cf (l:=dd (l.map cl)) (m:=l.map cl) (m5 _) λk n=>dd_mem.1 n;rw[List.length_map]at this;omega;omega
 | f+1,cl,c,h1,h2,h,hf=>by
  have u:∀ s∈l,∀t∈l,Eqv δ nb acc s t->cE δ nb l cl s=cE δ nb l cl t:=λs a t d e=>(dP a d).2 ⟨h1 s a t d e,λb i=>h1 _ (j s a b i) _ (j t d b i) (e.next i)⟩;have A:∀ s∈l,∀t∈l,cE δ nb l cl s=cE δ nb l cl t->acc s=acc t:=λs a t d e=>h2 s a t d ((dP a d).1 e).1;unfold rndM;by_cases o:cntM δ nb l cl=c;rw[Ht o];have q:c=(dd (l.map cl)).length:=by rcases h with h|⟨h,v⟩;exact h;exfalso;obtain⟨s,a⟩:=List.exists_mem_of_ne_nil _ v;have:keyM δ nb cl s∈dd (l.map (keyM δ nb cl)):=dd_mem.2 (List.mem_map.2 ⟨s,a,rfl⟩);grind [I7,cntM]
  have p:=td (l:=l) (f:=cE δ nb l cl) (g:=cl) (λs a t d e=>((dP a d).1 e).1) (by rw[cntM_next,o,q];exact Nat.le_refl _);refine⟨λs a t d=>⟨λe=>?_,u s a t d⟩,λs a=>?_,by rw[cntM_next,o]⟩;have x:cl s=cl t:=((dP a d).1 e).1;intro w;clear e;induction w generalizing s t with
  |nil=>exact λ_=>h2 s a t d x
  |cons b w y=>intro r;have i:=r b List.mem_cons_self;exact y _ (j s a b i) _ (j t d b i) (((dP a d).1 (p s a t d x)).2 b i) λk n=>r k (List.mem_cons_of_mem _ n)
  rw[<-o];exact oq (dd_mem.2 (List.mem_map.2 ⟨s,a,rfl⟩));rw[Hm o];have z:c<cntM δ nb l cl:=by
   rcases h with h|⟨h,v⟩;have:=cf (l:=dd (l.map cl)) (m:=(dd (l.map (keyM δ nb cl))).map (·.1)) (m5 _) λk n=>by obtain⟨s,a,rfl⟩:=List.mem_map.1 (dd_mem.1 n);exact List.mem_map.2 ⟨keyM δ nb cl s,dd_mem.2 (List.mem_map.2 ⟨s,a,rfl⟩),rfl⟩
   grind [List.length_map,cntM];omega
  exact pn j f u A (.inl cntM_next.symm) (by omega)
end
section
variable {K M:Type}[DecidableEq K] [DecidableEq M]
def bfsK(sc:K->List K):Nat->List K->Nat->List K
 |0,q,_=>q
 | f+1,q,i=>match q[i]? with
   |none=>q
   |some s=>bfsK sc f (ddA q (sc s)) (i+1)
def tabK(b:K->List K)(a:List K):List Lg:=a.map λk=>(b k).map (ixK a)
variable {φ :K->M}{P:K->Prop}
theorem m6(c:∀ a b,P a->P b-> φ a= φ b->a=b):∀ (l acc:List K),(∀x∈acc,P x)->(∀x∈l,P x)->ddA (acc.map φ) (l.map φ)=(ddA acc l).map φ /\∀ x∈ddA acc l,P x
 | [],acc,ha,_=>⟨rfl,ha⟩
 | x::l,acc,ha,hl=>by
  have f:=hl x List.mem_cons_self;have d:∀ y∈l,P y:=λy e=>hl y (List.mem_cons_of_mem _ e);rw[List.map_cons];unfold ddA;by_cases h:x∈acc;rw[Ht h,Ht (List.mem_map.2 ⟨x,h,rfl⟩)];exact m6 c l acc ha d;rw[Hm h,Hm (λg=>by grind)]
  have:=m6 c l (acc++[x]) (λy e=>by grind) d
  grind
theorem nk(c:∀ a b,P a->P b-> φ a= φ b->a=b){sc:K->List K}{sc2:M->List M}(e:∀ k,P k->sc2 (φ k)=(sc k).map φ)(g:∀ k,P k->∀ x∈sc k,P x):∀ (f:Nat) (q:List K) (i:Nat),(∀x∈q,P x)->bfsK sc2 f (q.map φ) i=(bfsK sc f q i).map φ /\∀ x∈bfsK sc f q i,P x
 |0,q,i,hq=>⟨rfl,hq⟩
 | f+1,q,i,hq=>by
  unfold bfsK;rw[List.getElem?_map];cases h:q[i]? with
  |none=>exact⟨rfl,hq⟩
  |some s=>have d:=hq s (List.mem_of_getElem? h);simp only[Option.map_some];rw[e s d];obtain⟨l,j⟩:=m6 c (sc s) q hq (g s d);rw[l];exact nk c e g f _ _ j
theorem pN(c:∀ a b,P a->P b-> φ a= φ b->a=b):∀ (ks:List K) (k:K),(∀x∈ks,P x)->P k->ixK (ks.map φ) (φ k)=ixK ks k
 | [],k,_,_=>rfl
 |x::ks,k,h,hk=>by rw[List.map_cons];unfold ixK;by_cases e:x=k;rw[Ht e,Ht (by rw[e])];rw[Hm e,Hm (λf=>e (c x k (h x List.mem_cons_self) hk f)),pN c ks k (λy d=>h y (List.mem_cons_of_mem _ d)) hk]
theorem yv(c:∀ a b,P a->P b-> φ a= φ b->a=b){sc:K->List K}{sc2:M->List M}(f:∀ k,P k->sc2 (φ k)=(sc k).map φ)(g:∀ k,P k->∀ x∈sc k,P x){ks:List K}(h:∀ x∈ks,P x):tabK sc2 (ks.map φ)=tabK sc ks:=by unfold tabK;rw[List.map_map];refine List.map_congr_left λk d=>?_;show(sc2 (φ k)).map _=_;rw[f k (h k d),List.map_map];exact List.map_congr_left λx e=>pN c ks x h (g k (h k d) x e)
end
abbrev Lang:=Lg->Bool
noncomputable instance:DecidableEq Lang:=λa b=>Classical.propDecidable (a=b)
variable {k:Nat}{acc:Nat->Bool}{δ:Nat->Nat->Nat}
def scL(a:Nat)(L:Lang):List Lang:=(List.range a).map λc w=>L (c::w)
theorem ri{K:Type}[DecidableEq K]{nb:Nat}{c:K->Lang}{sc:K->List K}{P:K->Prop}(e:∀ a b,P a->P b->c a=c b->a=b)(i:∀ k,P k->(sc k).map c=scL nb (c k))(j:∀ k,P k->∀ x∈sc k,P x){d:K}(n:P d)(f:Nat):
 bfsK (scL nb) f [c d] 0=(bfsK sc f [d] 0).map c/\tabK (scL nb) (bfsK (scL nb) f [c d] 0)=tabK sc (bfsK sc f [d] 0):=by obtain⟨g,m⟩:=nk (φ :=c) (sc2:=scL nb) e (λk h=>(i k h).symm) j f [d] 0 (λx l=>by rw[List.mem_singleton.1 l];exact n);have g:bfsK (scL nb) f [c d] 0=(bfsK sc f [d] 0).map c:=g;refine⟨g,?_⟩;rw[g];exact yv e (λk h=>(i k h).symm) j m
theorem ze{g e:Type}[DecidableEq g][DecidableEq e]{nb:Nat}{d:g->Lang}{l2:e->Lang}{c:g->List g}{sc2:e->List e}{P1:g->Prop}{P2:e->Prop}
 (i:∀ a b,P1 a->P1 b->d a=d b->a=b) (n:∀ k,P1 k->(c k).map d=scL nb (d k)) (p:∀ k,P1 k->∀ x∈c k,P1 x) {l:g}(r:P1 l)
 (h:∀ a b,P2 a->P2 b->l2 a=l2 b->a=b) (m:∀ k,P2 k->(sc2 k).map l2=scL nb (l2 k)) (o:∀ k,P2 k->∀ x∈sc2 k,P2 x) {j:e}(q:P2 j) (s:d l=l2 j) (f:Nat):
 tabK c (bfsK c f [l] 0)=tabK sc2 (bfsK sc2 f [j] 0)/\(bfsK c f [l] 0).map d=(bfsK sc2 f [j] 0).map l2:=by obtain⟨v,u⟩:=ri i n p r f;obtain⟨t,b2⟩:=ri h m o q f;grind
def hd(s:HS)(b:Nat):Nat:=(mN s.mem b).headD 0
theorem kP{n:Nat}{s:HS}(h:PV n s){b:Nat}(c:b<s.mem.length):hd s b<n/\oN s.of (hd s b)=b:=by
 have a:=h.ne b c;refine(h.iff b c _).1 ?_;unfold hd;cases d:mN s.mem b with
 |nil=>exact absurd d a
 |cons x l=>exact List.mem_cons_self
def bF(δ :Nat->Nat->Nat)(a:Nat->Nat)(b:Nat->Bool)(x:Nat):Lang:=λw=>b (runW δ x (w.map a))
def scB(δ :Nat->Nat->Nat)(a:Nat->Nat)(s:HS)(b:Nat):Lg:=(List.range 256).map λc=>oN s.of (δ (hd s b) (a c))
theorem jj{cls:Nat->Nat}{nc:Nat}(d:∀ c,cls c<nc)(f:∀ k,k<nc->∃ c,cls c=k){x y:Nat}:bF δ cls acc x=bF δ cls acc y↔Eqv δ nc acc x y:=by
 constructor;intro h w b;have:∃ a:Lg,a.map cls=w:=by
  clear h;induction w with
  |nil=>exact⟨[],rfl⟩
  |cons k w e=>obtain⟨a,i⟩:=e λj g=>b j (List.mem_cons_of_mem _ g);obtain⟨c,d⟩:=f k (b k List.mem_cons_self);exact⟨c::a,by rw[List.map_cons,d,i]⟩
 obtain⟨a,rfl⟩:=this;exact congrFun h a;intro h;funext w;exact h _ λk l=>by grind
theorem lN{cls:Nat->Nat}{n nc:Nat}{s:HS}(f :∀ x,x<n->∀ c,c<nc-> δ x c<n)(j:∀ c,cls c<nc)(g:∀ k,k<nc->∃ c,cls c=k)(d:PV n s)(t:∀ x,x<n->∀ y,y<n->(oN s.of x=oN s.of y↔Eqv δ nc acc x y)):
 (∀a b,a<s.mem.length->b<s.mem.length->bF δ cls acc (hd s a)=bF δ cls acc (hd s b)->a=b)/\
 (∀b,b<s.mem.length->(scB δ cls s b).map (λk=>bF δ cls acc (hd s k))=scL 256 (bF δ cls acc (hd s b)))/\
 (∀b,b<s.mem.length->∀ x∈scB δ cls s b,x<s.mem.length):=by refine⟨λa b r h e=>?_,λb h=>?_,λb h x p=>?_⟩;obtain⟨v,u⟩:=kP d r;obtain⟨i,b2⟩:=kP d h;grind [jj];obtain⟨i,b2⟩:=kP d h;unfold scB scL;rw[List.map_map];refine List.map_congr_left λc _=>?_;have l:=f _ i _ (j c);have q:=d.lt _ l;obtain⟨o,m⟩:=kP d q;exact(jj j g).2 ((t _ o _ l).1 m);obtain⟨i,_⟩:=kP d h;obtain⟨c,_,rfl⟩:=List.mem_map.1 p;exact d.lt _ (f _ i _ (j c))
def repM(l:Lg)(a:Nat->Nat)(k:Nat):Nat:=(l.find? λs=>a s=k).getD 0
theorem gF{l:Lg}{cl:Nat->Nat}(h:∃ s∈l,cl s=k):repM l cl k∈l/\cl (repM l cl k)=k:=by
 obtain⟨s,b,e⟩:=h;unfold repM;cases a:l.find? (λx=>cl x=k)with
 |none=>grind
 |some y=>grind
def scM(δ :Nat->Nat->Nat)(l:Lg)(a:Nat->Nat)(k:Nat):Lg:=(List.range 256).map λc=>a (δ (repM l a k) c)
theorem kB{l:Lg}{cl:Nat->Nat}(h:∀ s∈l,∀b, δ s b∈l)(n:∀ s∈l,∀t∈l,(cl s=cl t↔bF δ id acc s=bF δ id acc t)):
 (∀a b,(∃s∈l,cl s=a)->(∃s∈l,cl s=b)->bF δ id acc (repM l cl a)=bF δ id acc (repM l cl b)->a=b)/\
 (∀b,(∃s∈l,cl s=b)->(scM δ l cl b).map (λk=>bF δ id acc (repM l cl k))=scL 256 (bF δ id acc (repM l cl b)))/\
 (∀b,(∃s∈l,cl s=b)->∀ x∈scM δ l cl b,∃s∈l,cl s=x):=by refine⟨λa b o d e=>?_,λb d=>?_,λb d x m=>?_⟩;grind [gF];obtain⟨f,b2⟩:=gF d;unfold scM scL;rw[List.map_map];refine List.map_congr_left λc _=>?_;have g:=h _ f c;obtain⟨j,i⟩:=gF (l:=l) (cl:=cl) ⟨_,g,rfl⟩;exact(n _ j _ g).1 i;obtain⟨f,_⟩:=gF d;obtain⟨c,_,rfl⟩:=List.mem_map.1 m;exact⟨_,h _ f c,rfl⟩
theorem _root_.Go.Kg:type_of% @List.flatMap_append:=@List.flatMap_append
def chg:Nat->Lk->Lg->Lg
 |_,_,[]=>[]
 |b,p,x::l=>if p=some x then chg (b+1) (some x) l else b::x::chg (b+1) (some x) l
theorem nh:∀ (l:Lg) (b:Nat) (p:Lk) (k:Nat) (r:Lg),chg b p l=k::r->b<=k
 | [],b,p,k,r,h=>by cases h
 |x::l,b,p,k,r,h=>by unfold chg at h;split at h;have:=nh l (b+1) (some x) k r h;omega;cases h;exact Nat.le_refl _
theorem qp:∀ (l m:Lg) (b:Nat) (p:Lk),l.length=m.length->chg b p l=chg b p m->l=m
 | [],[],_,_,_,_=>rfl
 | [],_::_,_,_,h,_=>by cases h
 |_::_,[],_,_,h,_=>by cases h
 | x::l,y::m,b,p,hl0,h=>by
  have d:l.length=m.length:=by simpa using hl0
  unfold chg at h;by_cases c:p=some x;by_cases a:p=some y;rw[Ht c,Ht a]at h;have e:x=y:=by rw[c]at a;exact Option.some.inj a
  subst e;rw[qp l m _ _ d h];rw[Ht c,Hm a]at h;have:=nh _ _ _ _ _ h;omega;by_cases a:p=some y;rw[Hm c,Ht a]at h;have:=nh _ _ _ _ _ h.symm;omega;rw[Hm c,Hm a]at h;simp only[List.cons.injEq,true_and]at h;obtain⟨rfl,h⟩:=h;rw[qp l m _ _ d h]
theorem sL:∀ (l:Lg) (b:Nat) (p:Lk) (x:Nat),chg b p (l++[x])=chg b p l++(if(l.getLast?.or p)=some x then []else [b+l.length,x])
 | [],b,p,x=>by by_cases h:p=some x<;>simp[chg,h]
 | y::l,b,p,x=>by
  have a:=sL l (b+1) (some y) x;have e:((y::l).getLast?.or p)=(l.getLast?.or (some y)):=by grind
  rw[List.cons_append];rw[e,List.length_cons];have d:chg b p (y::(l++[x]))=if p=some y then chg (b+1) (some y) (l++[x])else b::y::chg (b+1) (some y) (l++[x]):=rfl;have c:chg b p (y::l)=if p=some y then chg (b+1) (some y) l else b::y::chg (b+1) (some y) l:=rfl;grind
def dg(k:Nat):UInt8:=UInt8.ofNat (if k<10 then 48+k else 87+k)
def ung(d:UInt8):Nat:=if d.toNat<58 then d.toNat-48 else d.toNat-87
theorem uA(h:k<36):ung (dg k)=k:=by
 unfold ung dg;by_cases a:k<10;rw[Ht a];have:(UInt8.ofNat (48+k)).toNat=48+k:=by simp;omega
 rw[this,Ht (by omega)];omega;rw[Hm a];have:(UInt8.ofNat (87+k)).toNat=87+k:=by simp;omega
 rw[this,Hm (by omega)];omega
theorem Gt(h:k<36):dg k≠32:=by
 intro e;have e:=congrArg UInt8.toNat e;unfold dg at e;by_cases a:k<10;rw[Ht a]at e;have:(UInt8.ofNat (48+k)).toNat=48+k:=by simp;omega
 grind;rw[Hm a]at e;have:(UInt8.ofNat (87+k)).toNat=87+k:=by simp;omega
 grind
def dg36:Nat->Nat->List UInt8
 |0,n=>[dg (n%36)]
 |f+1,n=>if n<36 then [dg n]else dg36 f (n/36)++[dg (n%36)]
def v36(l:List UInt8):Nat:=l.foldl (λa d=>a*36+ung d) 0
theorem Cg(l:List UInt8)(d:UInt8):v36 (l++[d])=v36 l*36+ung d:=by unfold v36;rw[List.foldl_append];rfl
theorem v36_d:∀ (f n:Nat),n<36 ^ (f+1)->v36 (dg36 f n)=n
 | 0,n,h=>by
  have h:n<36:=by simpa using h
  show 0*36+ung (dg (n%36))=n;rw[Nat.mod_eq_of_lt h,uA h];omega
 |f+1,n,h=>by unfold dg36;by_cases a:n<36;rw[Ht a];show 0*36+ung (dg n)=n;rw[uA a];omega;rw[Hm a,Cg,v36_d f (n/36) (by rw[Nat.pow_succ]at h;omega),uA (Nat.mod_lt _ (by decide))];omega
theorem xy:∀ (f n:Nat),∀d∈dg36 f n,d≠32
 |0,n,d,h=>by rw[List.mem_singleton.1 h];exact Gt (Nat.mod_lt _ (by decide))
 |f+1,n,d,h=>by unfold dg36 at h;split at h;grind [List.mem_singleton,Gt];rcases List.mem_append.1 h with h|h;exact xy f _ d h;grind [List.mem_singleton,Gt,Nat.mod_lt]
def keyB(l:Lg):List UInt8:=l.flatMap λn=>dg36 3 n++[32]
theorem qH:∀ {a b r s:List UInt8},(∀d∈a,d≠32)->(∀d∈b,d≠32)->a++32::r=b++32::s->a=b/\r=s
 | [],[],r,s,_,_,h=>⟨rfl,by simpa using h⟩
 | [],y::b,r,s,_,hb,h=>by grind
 |x::a,[],r,s,ha,_,h=>by grind
 |x::a,y::b,r,s,ha,hb,h=>by simp only[List.cons_append,List.cons.injEq]at h;obtain⟨rfl,h⟩:=h;obtain⟨e,c⟩:=qH (λd hd=>ha d (List.mem_cons_of_mem _ hd)) (λd hd=>hb d (List.mem_cons_of_mem _ hd)) h;exact⟨by rw[e],c⟩
theorem rB:∀ {l m:Lg},(∀x∈l,x<1679616)->(∀x∈m,x<1679616)->keyB l=keyB m->l=m
 | [],[],_,_,_=>rfl
 | [],y::m,_,_,h=>by have:=congrArg List.length h;simp[keyB]at this
 |x::l,[],_,_,h=>by have:=congrArg List.length h;simp[keyB]at this
 | x::l,y::m,hl,hm,h=>by
  have h:(dg36 3 x++[32])++keyB l=(dg36 3 y++[32])++keyB m:=h;rw[List.append_assoc,List.append_assoc]at h;obtain⟨c,b⟩:=qH (xy 3 x) (xy 3 y) h;have e:x=y:=by grind [v36_d,List.mem_cons_self]
  rw[e,rB (λz a=>hl z (List.mem_cons_of_mem _ a)) (λz a=>hm z (List.mem_cons_of_mem _ a)) b]
theorem zG(l m:Lg):keyB (l++m)=keyB l++keyB m:=Kg
def encM(x:Nat×Lg):List UInt8:=keyB (x.1::chg 0 none x.2)
structure PM (x:Nat×Lg):Prop where
 n:x.1<1679616
 l:x.2.length=256
 e:∀ y∈x.2,y<1679616
theorem sM:∀ (l:Lg) (b:Nat) (p:Lk) (N:Nat),b+l.length<=N->(∀x∈l,x<N)->∀ x∈chg b p l,x<N
 | [],b,p,N,_,_,x,h=>by cases h
 | y::l,b,p,N,c,hl,x,h=>by
  have c:b+1+l.length<=N:=by rw[List.length_cons]at c;omega
  have a:∀ x∈l,x<N:=λz d=>hl z (List.mem_cons_of_mem _ d);unfold chg at h;split at h;exact sM l (b+1) _ N c a x h;rcases List.mem_cons.1 h with rfl|h;omega;rcases List.mem_cons.1 h with rfl|h;exact hl _ List.mem_cons_self;exact sM l (b+1) _ N c a x h
theorem su{x y:Nat×Lg}(c:PM x)(b:PM y)(h:encM x=encM y):x=y:=by
 have:=rB (l:=x.1::chg 0 none x.2) (m:=y.1::chg 0 none y.2) (λz a=>by
  rcases List.mem_cons.1 a with rfl|a;exact c.n;exact sM x.2 0 none _ (by rw[c.l];decide) c.e z a) (λz a=>by
  rcases List.mem_cons.1 a with rfl|a;exact b.n;exact sM y.2 0 none _ (by rw[b.l];decide) b.e z a) h
 simp only[List.cons.injEq]at this;obtain⟨g,x2⟩:=x;obtain⟨f,d⟩:=y;have i:=qp x2 d 0 none (by rw[show x2.length=256 from c.l,show d.length=256 from b.l]) this.2;have j:g=f:=this.1;rw[j,i]
section
variable {δ :Nat->Nat->Nat}{l:Lg}
def keyT(δ :Nat->Nat->Nat)(a:Nat->Nat)(s:Nat):List UInt8:=encM (keyM δ 256 a s)
def ksT(δ :Nat->Nat->Nat)(l:Lg)(a:Nat->Nat):List (List UInt8):=dd (l.map (keyT δ a))
theorem v7{cl:Nat->Nat}(h:∀ s∈l,cl s<1679616)(d:∀ s∈l,∀b,b<256-> δ s b∈l):∀ s∈l,PM (keyM δ 256 cl s):=λs a=>
 ⟨h s a,by unfold keyM;simp,λy c=>by obtain⟨b,e,rfl⟩:=List.mem_map.1 c;exact h _ (d s a b (List.mem_range.1 e))⟩
theorem v6{cl:Nat->Nat}(h:∀ s∈l,cl s<1679616)(f:∀ s∈l,∀b,b<256-> δ s b∈l):ksT δ l cl=(dd (l.map (keyM δ 256 cl))).map encM:=by
 have:=(m6 (φ :=encM) (P:=PM) (λa b i g e=>su i g e) (l.map (keyM δ 256 cl)) [] (λx c=>by cases c) (λx c=>by obtain⟨s,d,rfl⟩:=List.mem_map.1 c;exact v7 h f s d)).1
 rw[List.map_map]at this;exact this
theorem nextT{cl:Nat->Nat}(h:∀ s∈l,cl s<1679616)(c:∀ s∈l,∀b,b<256-> δ s b∈l):∀ s∈l,ixK (ksT δ l cl) (keyT δ cl s)=cE δ 256 l cl s:=λs g=>by rw[v6 h c];exact pN (φ :=encM) (P:=PM) (λa b j i e=>su j i e) _ _ (λx d=>by obtain⟨t,f,rfl⟩:=List.mem_map.1 (dd_mem.1 d);exact v7 h c t f) (v7 h c s g)
theorem cntT{cl:Nat->Nat}(h:∀ s∈l,cl s<1679616)(a:∀ s∈l,∀b,b<256-> δ s b∈l):(ksT δ l cl).length=cntM δ 256 l cl:=by rw[v6 h a,List.length_map];rfl
end
end Go.HK
