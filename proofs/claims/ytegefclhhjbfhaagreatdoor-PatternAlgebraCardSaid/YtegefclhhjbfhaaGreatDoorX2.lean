/- A part of the proof. -/
import Derived.Test.YtegefclhhjbfhaaGreatDoorX1
set_option linter.unusedVariables false
set_option linter.unusedSimpArgs false
set_option linter.unusedSectionVars false
set_option maxRecDepth 1000000
namespace Go.T9
open Go Go.AM Go.Proofs.Tryz
noncomputable section
abbrev _root_.Go.Hm:=@List.take_length
abbrev _root_.Go.Jp:=@Int.fdiv_eq_ediv_of_nonneg
abbrev _root_.Go.Hd:=@List.take_succ_eq_append_getElem
abbrev M':=λa=>Value.slice a 0 18446744073709551620
theorem Kl(K:KV)(s:Int)(acc:Li)(nx:La)(c:Int):jCo K s acc nx c=(((0:Int)<=(0:Int)/\0<=IntKind.wrap .i64 (2*p_ (roV nx))/\IntKind.wrap .i64 (2*p_ (roV nx))<=281474976710656/\1*Int.toNat (IntKind.wrap .i64 (2*p_ (roV nx)))<=281474976710656)/\HF (E_ nx)/\HF (Value.agg ⟨[]⟩)/\LAtZ XCo 1 f48.ntmps (AH.mk Lf 0) (au f48) [1,1,0,1,0] (finK (SX.E XCo) f48.results.toList K) (No (Ns (t_ (J9 (p_ (roV nx)))) (Vi c) (Sg (M' (some ⟨0,0,none⟩)))) (No (t_ (J9 0)) (No Lf (Sg (E_ nx))))) (AH.mk (Sg (AObj.gro [] [] 5)) 1)):=by kernel_rfl
theorem jCo_nf:type_of%(by have h:=@Kl;revert h;delta p_ t_ E_ M' J9;exact id):=@Kl
abbrev b_:=λa b=>Value.slice a b 18446744073709551620
abbrev l_:=λa=>HF (Value.agg (Array.mk a))
abbrev o_:=λa b=>AObj.gro a [] b
abbrev J_:=λa=>Value.int .u8 a
theorem Km(K:KV)(again:KF)(nx:La)(c:Int)(l:List UInt8)(i:Nat):jCoL K again nx c l i=(Sp (decide ((i:Int)<p_ (roV nx))) ((0<=(i:Int)/\(i:Int)<p_ (roV nx))/\nth (roV nx) i=some (Vd 1 (ah (roV nx) i))/\(0<=c/\c<p_ (ah (roV nx) i))/\nth (ah (roV nx) i) (v_ (u_ (v_ c)))=some (Vi (aa (ah (roV nx) i) (u_ (v_ c))))/\(0<=c/\c<p_ (ah (roV nx) i))/\nth (ah (roV nx) i) (v_ (u_ (v_ c)))=some (Vi (aa (ah (roV nx) i) (u_ (v_ c))))/\(List.all [J_ (IntKind.wrap .u8 (aa (ah (roV nx) i) (u_ (v_ c)))),J_ (IntKind.wrap .u8 (Int.fdiv (aa (ah (roV nx) i) (u_ (v_ c))) 256))] cellv=true/\List.length l+0=List.length (u8v l)/\List.length l+(2:Nat)<=(70368744177664:Nat)/\(List.length l+2)*(1:Nat)<=(140737488355328:Nat))/\HF (E_ nx)/\l_ (u8v l++[J_ (IntKind.wrap .u8 (aa (ah (roV nx) i) (u_ (v_ c)))),J_ (IntKind.wrap .u8 (Int.fdiv (aa (ah (roV nx) i) (u_ (v_ c))) 256))])/\again (No (Ns (t_ (J9 (p_ (roV nx)))) (Vi c) (Sg (b_ (some ⟨0,0,none⟩) (List.length l+2)))) (No (t_ (z_ ((i:Int)+1))) (No Lf (Sg (E_ nx))))) (AH.mk (Sg (o_ (u8v l++[J_ (IntKind.wrap .u8 (aa (ah (roV nx) i) (u_ (v_ c)))),J_ (IntKind.wrap .u8 (Int.fdiv (aa (ah (roV nx) i) (u_ (v_ c))) 256))]) 5)) 1)) (IsB (u8v l) 0 l.length/\K (Vs (ao (u8L (u8v l) 0 l.length))) (AH.mk (Sg (o_ (u8v l) 5)) 1))):=by kernel_rfl
theorem DY:type_of%(by have h:=@Km;revert h;delta b_ l_ o_ p_ t_ u_ v_ z_ E_ J_ J9;exact id):=@Km
theorem pm{x:Int}(h:0<=x):IntKind.u8.wrap x=((UInt8.ofNat x.toNat).toNat:Int):=by
 have c:(2:Int) ^ IntKind.u8.bits=256:=by decide
 have b:IntKind.u8.signed=false:=rfl;have a:(UInt8.ofNat x.toNat).toNat=x.toNat%256:=by simp
 unfold IntKind.wrap;rw[c,b,a];simp only[Bool.false_and,HO,HV];omega
theorem eK(l:List UInt8):(u8v l).length=l.length:=GB _
theorem fX(l r:List UInt8):u8v (l++r)=u8v l++u8v r:=List.map_append
theorem nI(l:List UInt8):HF (.agg ⟨u8v l⟩):=.agg λx a=>by obtain⟨b,_,rfl⟩:=GA.1 a;exact HFi _ _
theorem Am(l:List UInt8):IsB (u8v l) 0 l.length:=⟨l,by rw[Jc,<-eK l,Hm];rfl,rfl⟩
theorem u8_L(l:List UInt8):u8L (u8v l) 0 l.length=l:=by unfold u8L;rw[Jc,<-eK l,Hm];exact Ak l
def b2(x:Int):List UInt8:=[UInt8.ofNat x.toNat,UInt8.ofNat (x.fdiv 256).toNat]
def colB(nx:La)(c:Nat):List UInt8:=nx.flatMap λr=>b2 (r.getD c 0)
theorem pb(l:La)(c:Nat):(colB l c).length=2*l.length:=by
 induction l with
 |nil=>rfl
 |cons r l a=>unfold colB at*;rw[List.flatMap_cons,Gx,a];simp[b2];omega
theorem b2_inj{x y:Int}(i:0<=x)(c:x<65536)(g:0<=y)(b:y<65536)(h:b2 x=b2 y):x=y:=by unfold b2 at h;simp only[JP,and_true]at h;obtain⟨e,d⟩:=h;have f:=HD UInt8.toNat e;have a:=HD UInt8.toNat d;rw[Jp _ (by omega),Jp _ (by omega)]at a;simp at f a;omega
theorem FL{a:AU}(h:OkA a){c:Nat}(t:c<256):Walk env f48 [auV a,.int .i64 c] (.string (ao (colB a.2.2 c))):=by
 obtain⟨s,l,b⟩:=a;have p:=h.n1;have m:=h.row;have g:=h.ent;dsimp only at p m g;refine dK BN (d:=1) (.scal rfl) ((jCo_nf _ s l b c).mpr ?_);rw[aP,aM (x:=2*(b.length:Int)) (by omega) (by omega)];refine⟨⟨by omega,by omega,by omega,by omega⟩,.dat (aC _),nI [],?_⟩;refine LAtZ.stepF BN [] [] [] [1,5,14,15,16] (by kernel_rfl) (λk F A=>∃ i:Nat,F=frCo c b (colB (b.take i) c) i/\A=hCo (colB (b.take i) c)/\i+k=b.length) ?_ (k:=b.length) ⟨0,by unfold frCo;rw[aP];rfl,rfl,by omega⟩;rintro k F A ⟨i,rfl,rfl,r⟩;have j:=pb (b.take i) c;rw[Hh]at j;refine(DY _ _ b c _ i).mpr ?_;rw[aP];refine Sp.intro (λq=>?_) (λq=>?_);have q:=odt q;have f:i<b.length:=by omega
 have e:c<b[i].length:=by rw[m _ (GH f)];exact t
 have o:=g _ (GH f) _ (GH e);have w:(↑(Int.toNat (c:Int)):Int)=c:=by omega
 have v:[Value.int .u8 (IntKind.wrap .u8 b[i][c]),Value.int .u8 (IntKind.wrap .u8 (Int.fdiv b[i][c] 256))]=u8v (b2 b[i][c]):=by
  have hd:0<=Int.fdiv b[i][c] 256:=by rw[Jp _ (by omega)];omega
  rw[pm o.1,pm hd];rfl
 have n:colB (b.take (i+1)) c=colB (b.take i) c++b2 b[i][c]:=by rw[Hd f];unfold colB;rw[List.flatMap_append,List.flatMap_cons,List.flatMap_nil,GG,gD e]
 rw[dg f,w,Gz,aK e,aj,v,eK];have u:(b2 b[i][c]).length=2:=rfl;refine⟨⟨by omega,q⟩,gG f,⟨by omega,by omega⟩,bi e,⟨by omega,by omega⟩,bi e,⟨rfl,by omega,by omega,by omega⟩,.dat (aC _),?_,k-1,by omega,i+1,?_,?_,by omega⟩;rw[<-fX];exact nI _;rw[aM (x:=(i:Int)+1) (by omega) (by omega),n];unfold frCo;rw[aP,Gx,u];rfl;rw[<-fX,<-n];rfl;have q:=odf q;refine⟨Am _,?_⟩;rw[u8_L,IL (by omega)];rfl
def coX:Lh->Lj
 | [v,.int .i64 c]=>(match auQ v with|some a=>some (.string (ao (colB a.2.2 c.toNat)))|none=>none)
 |_=>none
def coP:Lh->Ll
 | [v,.int .i64 c]=>some (okV v/\0<=c/\c<256)
 |_=>none
theorem co_tab:∀ args A p v A',bw coP coX args A=some (p,v,A')->PH p->CallAt env 48 args A v A':=de ak an (fn:=f48) rfl λargs v h d=>by
 unfold coX at h;split at h;· rename_i u c;obtain⟨⟨b,g⟩,f,i⟩:okV u/\0<=c/\c<256:=d;split at h;rotate_left;cases h;rename_i a e;cases h;rw[ic b e];obtain⟨n,rfl⟩:=Hu f;have:=FL g (c:=n) (by omega);rw[<-b]at this;exact⟨HF.cons (by rw[b];exact iP _) (HF.cons (HFi _ _) HF.nil),this⟩
 cases h
def auC(s:Int)(acc:Li)(nx:La):AObj:=.cells [.int .i64 s,dat 1 (blV acc),dat 1 (roV nx)] 25
def hA1(s:Int)(acc:Li)(nx:La):AH:=⟨Nd Lf (some (auC s acc nx)) Lf,1⟩
def hA2(s:Int)(acc:Li)(nx:La)(s2:Int)(acc2:Li)(nx2:La):AH:=⟨Nd (Nd Lf (some (auC s2 acc2 nx2)) Lf) (some (auC s acc nx)) Lf,2⟩
def XKy:SX:=⟨env,[(48,bw coP coX)],noEl,λ_=>.unroll 0⟩
theorem BG:XKy.Ok:=⟨ak,aA,an,.cons co_tab .nil⟩
def jKs(K:KV)(c:Int)(s:Int)(acc:Li)(nx:La):Prop:=bc XKy 1 f47 [.int .i64 c,.pointer (some ⟨0,0,none⟩)] (hA1 s acc nx) K
def jKp(K:KV)(c:Int)(s:Int)(acc:Li)(nx:La)(s2:Int)(acc2:Li)(nx2:La):Prop:=bc XKy 1 f67 [.int .i64 c,.pointer (some ⟨0,0,none⟩),.pointer (some ⟨1,0,none⟩)] (hA2 s acc nx s2 acc2 nx2) K
end
end Go.T9
namespace Go.T9
abbrev _root_.Go.I2:=@List.range_succ
abbrev _root_.Go.In:=@List.filter_append
abbrev _root_.Go.Jy:=@List.map_nil
section
variable {S U:Type}[DecidableEq S] [DecidableEq U] {B:Type}
def addW(w:List B):List (S×List B)->List (B×S)->List (S×List B)
 |q,[]=>q
 |q,x::l=>if x.2∈q.map (·.1)then addW w q l else addW w (q++[(x.2,w++[x.1])]) l
def bfs(sc:S->List (B×S))(ac:S->Bool):Nat->List (S×List B)->Nat->Option (List B)
 |0,_,_=>none
 | f+1,q,i=>match q[i]? with
   |none=>none
   |some x=>if ac x.1 then some x.2 else bfs sc ac f (addW x.2 q (sc x.1)) (i+1)
def addS:List S->List S->List S
 |q,[]=>q
 |q,s::l=>if s∈q then addS q l else addS (q++[s]) l
def exS(sc:S->List S):Nat->List S->Nat->List S
 |0,q,_=>q
 | f+1,q,i=>match q[i]? with
   |none=>q
   |some s=>exS sc f (addS q (sc s)) (i+1)
theorem eC(w:List B):∀ (l1 l2:List (B×S)) (q:List (S×List B)),addW w q (l1++l2)=addW w (addW w q l1) l2
 | [],l2,q=>rfl
 |x::l1,l2,q=>by simp only[List.cons_append,addW];split<;>exact eC w l1 l2 _
theorem ii(w:List B):∀ (l:List (B×S)) (q:List (S×List B)),(addW w q l).map (·.1)=addS (q.map (·.1)) (l.map (·.2))
 | [],q=>rfl
 |x::l,q=>by simp only[addW,addS,List.map_cons];split;exact ii w l q;rw[ii w l];simp
theorem eD:∀ (l q:List S),∃r,addS q l=q++r
 | [],q=>⟨[],by simp[addS]⟩
 |s::l,q=>by simp only[addS];split;exact eD l q;obtain⟨r,h⟩:=eD l (q++[s]);exact⟨s::r,by rw[h];simp⟩
theorem nG{l q:List S}{s:S}(h:s∈q):s∈addS q l:=by obtain⟨r,a⟩:=eD l q;rw[a];simp[h]
theorem fF:∀ {l q:List S}{s:S},s∈l->s∈addS q l
 |x::l,q,s,h=>by simp only[addS];rcases List.mem_cons.1 h with rfl|h;split;rename_i a;exact nG a;exact nG (by simp);split<;>exact fF h
theorem cM:∀ {l q:List S}{s:S},s∈addS q l->s∈q∨s∈l
 | [],q,s,h=>.inl h
 |x::l,q,s,h=>by simp only[addS]at h;split at h;rcases cM h with h|h;exact .inl h;exact .inr (by simp[h]);rcases cM h with h|h;rcases List.mem_append.1 h with h|h;exact .inl h;simp only[List.mem_singleton]at h;subst h;exact .inr (by simp);exact .inr (by simp[h])
theorem cP:∀ {l q:List S},q.Nodup->(addS q l).Nodup
 | [],q,h=>h
 |x::l,q,h=>by simp only[addS];split;exact cP h;rename_i f;refine cP (List.nodup_append.2 ⟨h,by simp,λa d b c=>?_⟩);simp only[List.mem_singleton]at c;subst c;exact λe=>f (e▸d)
theorem nE{f:S->U}{P:S->Prop}(d:∀ a b,P a->P b->f a=f b->a=b)(w:List B):∀ (l:List (B×S)) (q:List (S×List B)),(∀x∈q,P x.1)->(∀x∈l,P x.2)->
 addW w (q.map λx=>(f x.1,x.2)) (l.map λx=>(x.1,f x.2))=(addW w q l).map (λx=>(f x.1,x.2))/\∀ x∈addW w q l,P x.1
 | [],q,hq,_=>⟨rfl,hq⟩
 | x::l,q,hq,hl=>by
  have j:=hl x (by simp);have e:f x.2∈(q.map λx=>(f x.1,x.2)).map (·.1)↔x.2∈q.map (·.1):=by simp only[List.map_map,List.mem_map,Function.comp];exact⟨λ⟨y,i,g⟩=>⟨y,i,d _ _ (hq y i) j g⟩,λ⟨y,i,g⟩=>⟨y,i,by rw[g]⟩⟩
  simp only[List.map_cons,addW];by_cases h:x.2∈q.map (·.1);rw[if_pos h,if_pos (e.2 h)];exact nE d w l q hq λy c=>hl y (by simp[c]);rw[if_neg h,if_neg (λg=>h (e.1 g))];have:=nE d w l (q++[(x.2,w++[x.1])]) (λy c=>by rcases List.mem_append.1 c with c|c;exact hq y c;simp only[List.mem_singleton]at c;subst c;exact j) λy c=>hl y (by simp[c])
  simpa using this
theorem xG{f:S->U}{P:S->Prop}(c:∀ a b,P a->P b->f a=f b->a=b){sc:S->List (B×S)}{sc2:U->List (B×U)}{ac:S->Bool}{ac2:U->Bool}
 (e:∀ s,P s->sc2 (f s)=(sc s).map (λx=>(x.1,f x.2))/\∀ x∈sc s,P x.2) (g:∀ s,P s->ac2 (f s)=ac s):∀ (k:Nat) (q:List (S×List B)) (i:Nat),(∀x∈q,P x.1)->
 bfs sc2 ac2 k (q.map λx=>(f x.1,x.2)) i=bfs sc ac k q i
 |0,q,i,_=>rfl
 | k+1,q,i,hq=>by
  simp only[bfs,List.getElem?_map];cases h:q[i]? with
  |none=>rfl
  |some x=>have d:=hq x (List.mem_of_getElem? h);simp only[Option.map_some,g _ d];split;rfl;obtain⟨n,m⟩:=e _ d;obtain⟨l,j⟩:=nE c x.2 (sc x.1) q hq m;rw[n,l];exact xG c e g k _ _ j
theorem lO{g:Nat->S}{bt:Nat->B}{ft:Nat->Bool}(w:List B)(q:List (S×List B)):∀ n,(∀c,c<n->ft c=false->∃ c',c'<c/\g c'=g c)->
 addW w q ((List.range n).map λc=>(bt c,g c))=addW w q (((List.range n).filter ft).map λc=>(bt c,g c))
 |0,_=>rfl
 | n+1,h=>by
  have b:=lO (g:=g) (bt:=bt) (ft:=ft) w q n λc d=>h c (by omega);rw[I2,List.map_append,eC,b,In,List.map_append,eC];cases a:ft n with
  |true=>simp[a]
  |false=>
  obtain⟨c',d,e⟩:=h n (by omega) a;have f:g n∈(addW w q (((List.range n).filter ft).map λc=>(bt c,g c))).map (·.1):=by rw[<-b,ii];refine fF ?_;simp only[List.map_map,List.mem_map,List.mem_range,Function.comp];exact⟨c',d,e⟩
  simp only[List.map_cons,Jy,addW,f,if_true,a,List.filter_cons,List.filter_nil,Bool.false_eq_true,if_false]
theorem pa{sc sc2:S->List (B×S)}{ac ac2:S->Bool}{P:S->Prop}(c:∀ s,P s->∀ w q,addW w q (sc s)=addW w q (sc2 s))(g:∀ s,P s->∀ x∈sc s,P x.2)(j:∀ s,P s->ac s=ac2 s):∀ (k:Nat) (q:List (S×List B)) (i:Nat),(∀x∈q,P x.1)->bfs sc ac k q i=bfs sc2 ac2 k q i
 |0,q,i,_=>rfl
 | k+1,q,i,hq=>by
  simp only[bfs];cases h:q[i]? with
  |none=>rfl
  |some x=>have a:=hq x (List.mem_of_getElem? h);simp only[j _ a];split;rfl;rw[c _ a];refine pa c g j k _ _ λy f=>?_;rw[<-c _ a]at f;have:y.1∈(addW x.2 q (sc x.1)).map (·.1):=List.mem_map.2 ⟨y,f,rfl⟩;rw[ii]at this;rcases cM this with d|d;obtain⟨z,b,e⟩:=List.mem_map.1 d;rw[<-e];exact hq z b;obtain⟨z,b,e⟩:=List.mem_map.1 d;rw[<-e];exact g _ a z b
theorem cE:∀ (n:Nat) (l:List Nat),l.Nodup->(∀x∈l,x<n)->l.length<=n
 | 0,l,_,h=>by
  cases l with
  |nil=>simp
  |cons x l=>exact absurd (h x (by simp)) (by omega)
 | n+1,l,hd,h=>by
  have j:=cE n (l.filter λy=> !decide (y=n)) (hd.filter _) λx f=>by
   have b:=List.mem_filter.1 f;have:=h x b.1;have i:¬ x=n:=by simpa using b.2
   omega
  have a:∀ l:List Nat,l.Nodup->l.length<=(l.filter λy=> !decide (y=n)).length+1:=by
   intro l;induction l with
   |nil=>intro _;simp
   |cons x l c=>
   intro hd;rw[List.nodup_cons]at hd;by_cases e:x=n;have g:l.filter (λy=> !decide (y=n))=l:=List.filter_eq_self.2 λy d=>by have:¬ y=n:=λq=>hd.1 (by rw[e,<-q];exact d);simp[this]
   rw[List.filter_cons,g,List.length_cons];split<;>simp;have:=c hd.2;rw[List.filter_cons,if_pos (by simp[e]),List.length_cons,List.length_cons];omega
  have:=a l hd;omega
end
end Go.T9
namespace Go.T9
open Go Go.AM Go.MK Go.Proofs.Tryz
noncomputable section
theorem jKs_nf(K:KV)(c s:Int)(acc:Li)(nx:La):jKs K c s acc nx=((okV (Value.agg (Array.mk [Vi s,Vd 1 (blV acc),Vd 1 (roV nx)]))/\0<=c/\c<256)/\K (Vs (ByteArray.mk (Array.mk (colB (List.map deR (roV nx)) (Int.toNat c))))) (AH.mk (Sg (AObj.cells [Vi s,Vd 1 (blV acc),Vd 1 (roV nx)] 25)) 1)):=by kernel_rfl
abbrev JZ:=λa=>Vs (ByteArray.mk (Array.mk a))
theorem Kn(K:KV)(c s:Int)(acc:Li)(nx:La)(s2:Int)(acc2:Li)(nx2:La):jKp K c s acc nx s2 acc2 nx2=((okV (j_ [Vi s,O_ acc,E_ nx])/\0<=c/\c<256)/\Value.agg (Array.mk [Vi s2,O_ acc2,E_ nx2])=Value.agg (Array.mk [Vi s2,O_ acc2,E_ nx2])/\(okV (j_ [Vi s2,O_ acc2,E_ nx2])/\0<=c/\c<256)/\List.length (Array.toList (ByteArray.data (ao (colB (Prod.snd (Prod.snd (s,g_ acc,c_ nx))) (v_ c)))))+List.length (Array.toList (ByteArray.data (ao (colB (Prod.snd (Prod.snd (s2,g_ acc2,c_ nx2))) (v_ c)))))<=4611686018427387904/\K (JZ (Array.toList (ByteArray.data (ao (colB (Prod.snd (Prod.snd (s,g_ acc,c_ nx))) (v_ c))))++Array.toList (ByteArray.data (ao (colB (Prod.snd (Prod.snd (s2,g_ acc2,c_ nx2))) (v_ c)))))) (AH.mk (J5 (Sg (k_ s2 acc2 nx2)) (k_ s acc nx)) 10)):=by kernel_rfl
theorem jKp_nf:type_of%(by have h:=@Kn;revert h;delta c_ g_ j_ k_ v_ E_ O_ JZ J5;exact id):=@Kn
abbrev LB:=List UInt8
def keyS(nx:La)(c:Nat):LB:=colB nx c
def keyP(nx nx2:La)(c:Nat):LB:=colB nx c++colB nx2 c
theorem end_a1(Q:Value->AH->Prop)(s:Int)(acc:Li)(nx:La)(t:ByteArray)(n:Nat):endF env (hA1 s acc nx) [] [] [] Q (.string t) ⟨(hA1 s acc nx).t,n⟩=(HF (dat 1 (blV acc))/\HF (dat 1 (roV nx))/\Q (.string t) (hA1 s acc nx)):=by kernel_rfl
theorem end_a2(Q:Value->AH->Prop)(s:Int)(acc:Li)(nx:La)(c:Int)(a:Li)(b:La)(t:ByteArray)(n:Nat):endF env (hA2 s acc nx c a b) [] [] [] Q (.string t) ⟨(hA2 s acc nx c a b).t,n⟩=(HF (dat 1 (blV acc))/\HF (dat 1 (roV nx))/\HF (dat 1 (blV a))/\HF (dat 1 (roV b))/\Q (.string t) (hA2 s acc nx c a b)):=by kernel_rfl
theorem Do{a:AU}(h:OkA a){c:Nat}(f:c<256):WalkF env f47 [.int .i64 c,.pointer (some ⟨0,0,none⟩)] (hA1 a.1 a.2.1 a.2.2) (.string (ao (keyS a.2.2 c))) (hA1 a.1 a.2.1 a.2.2):=by obtain⟨s,b,e⟩:=a;refine aq BG (d:=1) (ns:=[]) (zs:=[]) (ws:=[]) ((jKs_nf _ c s b e).mpr ⟨⟨rd h,by omega,by omega⟩,?_⟩);rw[aO];exact(end_a1 _ s b e _ _).mpr ⟨.dat (aG _),.dat (aC _),rfl,rfl⟩
theorem Dp{a b:AU}(h:OkA a)(l:OkA b){c:Nat}(n:c<256):WalkF env f67 [.int .i64 c,.pointer (some ⟨0,0,none⟩),.pointer (some ⟨1,0,none⟩)] (hA2 a.1 a.2.1 a.2.2 b.1 b.2.1 b.2.2) (.string (ao (keyP a.2.2 b.2.2 c))) (hA2 a.1 a.2.1 a.2.2 b.1 b.2.1 b.2.2):=by obtain⟨s,g,i⟩:=a;obtain⟨k,e,f⟩:=b;have m:=h.n1;have j:=l.n1;dsimp only at m j;refine aq BG (d:=1) (ns:=[]) (zs:=[]) (ws:=[]) ((jKp_nf _ c s g i k e f).mpr ⟨⟨rd h,by omega,by omega⟩,rfl,⟨rd l,by omega,by omega⟩,?_,?_⟩);rw[aO,aO];show(colB i c).length+(colB f c).length<=_;rw[pb,pb];omega;rw[aO,aO];exact(end_a2 _ s g i k e f _ _).mpr ⟨.dat (aG _),.dat (aC _),.dat (aG _),.dat (aC _),rfl,rfl⟩
def auO:AObj->Option AU
 | .cells [.int .i64 s,.func (.yield 1) ⟨bs⟩ ⟨[]⟩,.func (.yield 1) ⟨rs⟩ ⟨[]⟩] e=>bif Nat.beq e 25 then some (s,bs.map deB,rs.map deR)else none
 |_=>none
def auCo(a:AU):AObj:=auC a.1 a.2.1 a.2.2
def okO(o:AObj)(a:AU):Prop:=o=auCo a/\OkA a
def spKs:Lh->List AObj->Option (Ll×Value×List AObj)
 | [.int .i64 c,.pointer (some ⟨B,o,none⟩)],[x]=>(match auO x with
   |some a=>bif Nat.beq B 0&&Nat.beq o 0 then some (some (okO x a/\0<=c/\c<256),.string (ao (keyS a.2.2 c.toNat)),[x])else none
   |none=>none)
 |_,_=>none
def spKp:Lh->List AObj->Option (Ll×Value×List AObj)
 | [.int .i64 c,.pointer (some ⟨B,o,none⟩),.pointer (some ⟨B2,o2,none⟩)],[x,y]=>(match auO x,auO y with
   |some a,some b=>bif (Nat.beq B 0&&Nat.beq o 0)&&(Nat.beq B2 1&&Nat.beq o2 0)then some (some (okO x a/\okO y b/\0<=c/\c<256),.string (ao (keyP a.2.2 b.2.2 c.toNat)),[x,y])else none
   |_,_=>none)
 |_,_=>none
theorem pX(a:AU):aS [auCo a]=hA1 a.1 a.2.1 a.2.2:=by kernel_rfl
theorem wj(a b:AU):aS [auCo a,auCo b]=hA2 a.1 a.2.1 a.2.2 b.1 b.2.1 b.2.2:=by kernel_rfl
theorem ks_tab:∀ args A p v A',frmR noAr spKs args A=some (p,v,A')->PH p->CallAt env 47 args A v A':=aY ak (fn:=f47) rfl λargs e p v d h f=>by unfold spKs at h;split at h;rename_i c B o x;split at h;rename_i a j;cases b:Nat.beq B 0&&Nat.beq o 0;rw[b]at h;cases h;rw[b]at h;simp only[C',osI,GC]at h;obtain⟨rfl,rfl,rfl⟩:=h;simp only[f',GL]at b;obtain⟨rfl,rfl⟩:=b;obtain⟨⟨rfl,i⟩,g,k⟩:okO x a/\0<=c/\c<256:=f;obtain⟨n,rfl⟩:=Hu g;rw[pX];exact Do i (by omega);cases h;cases h
theorem kp_tab:∀ args A p v A',frmR noAr spKp args A=some (p,v,A')->PH p->CallAt env 67 args A v A':=aY ak (fn:=f67) rfl λargs f p v e h i=>by unfold spKp at h;split at h;rename_i c B o q g x y;split at h;rename_i a b r j;cases d:(Nat.beq B 0&&Nat.beq o 0)&&(Nat.beq q 1&&Nat.beq g 0);rw[d]at h;cases h;rw[d]at h;simp only[C',osI,GC]at h;obtain⟨rfl,rfl,rfl⟩:=h;simp only[f',GL]at d;obtain⟨⟨rfl,rfl⟩,rfl,rfl⟩:=d;obtain⟨⟨rfl,m⟩,⟨rfl,l⟩,k,s⟩:okO x a/\okO y b/\0<=c/\c<256:=i;obtain⟨n,rfl⟩:=Hu k;rw[wj];exact Dp m l (by omega);cases h;cases h
section
variable {K:Type}[DecidableEq K]
def idN:List K->K->Nat
 | [],_=>0
 |x::l,k=>if x=k then 0 else idN l k+1
theorem jn{k:K}:∀ {l:List K},¬k∈l->idN l k=l.length
 | [],_=>rfl
 |x::l,h=>by have a:¬ x=k:=λe=>h (by simp[e]);have b:¬ k∈l:=λe=>h (by simp[e]);simp only[idN,D' a,GY,jn b]
theorem gP{k:K}:∀ {l:List K},k∈l->l[idN l k]? =some k
 | x::l,h=>by
  by_cases e:x=k;simp[idN,e];have:k∈l:=by rcases GI.1 h with h|h;exact absurd h.symm e;exact h
  simp only[idN,D' e,Ic];exact gP this
theorem lk{k:K}{l:List K}(h:k∈l):idN l k<l.length:=(GE.1 (gP h)).1
theorem wg{k:K}(r:List K):∀ {l:List K},k∈l->idN (l++r) k=idN l k
 | x::l,h=>by
  by_cases e:x=k;simp[idN,e];have:k∈l:=by rcases GI.1 h with h|h;exact absurd h.symm e;exact h
  simp only[IS,idN,D' e,wg r this]
def mkF:List K->Nat->List (K×Int)
 | [],_=>[]
 |k::l,i=>(k,(i:Int))::mkF l (i+1)
def mkM(l:List K):List (K×Int):=mkF l 0
theorem vx:∀ (l:List K) (i:Nat),(mkF l i).length=l.length
 | [],_=>rfl
 |k::l,i=>by simp[mkF,vx l]
theorem vy(k:K):∀ (l:List K) (i:Nat),aget (mkF l i) k=if k∈l then some (((idN l k+i:Nat)):Int)else none
 | [],i=>rfl
 |x::l,i=>by simp only[mkF,aget];by_cases e:x=k;subst e;simp[idN];rw[D' e,vy k l];have b:k≠x:=λh=>e h.symm;by_cases h:k∈l;have a:idN (x::l) k=idN l k+1:=D' e;rw[Gw h,Gw (by simp[h]),a];congr 2;omega;rw[D' h,D' (by simp[h,b])]
theorem vw{k:K}:∀ {l:List K}{i:Nat},¬k∈l->aset (mkF l i) k ((l.length+i:Nat):Int)=mkF (l++[k]) i
 | [],i,_=>by simp[mkF,aset]
 |x::l,i,h=>by have a:¬ x=k:=λe=>h (by simp[e]);have b:¬ k∈l:=λe=>h (by simp[e]);have:=vw (l:=l) (i:=i+1) b;simp only[mkF,aset,IS,D' a,GY];rw[<-this];congr 3;omega
theorem iy(l:List K)(k:K):aget (mkM l) k=if k∈l then some ((idN l k:Nat):Int)else none:=vy k l 0
theorem dS{l:List K}{k:K}(h:¬ k∈l):aset (mkM l) k ((l.length:Nat):Int)=mkM (l++[k]):=vw (i:=0) h
theorem dT(l:List K):(mkM l).length=l.length:=vx l 0
end
def vS:Value->LB
 | .string s=>s.data.toList
 |_=>[]
variable {n:Nat}{key:Nat->LB}
def kS(l:LB):Value:=.string (ao l)
abbrev Ents:=Lc
def enS(m:List (LB×Int)):Ents:=ents kS (Value.int .i64) m
def mgS(es:Ents)(k:Value):Int:=(aget (inv vS deI es) (vS k)).getD 0
def mhS(es:Ents)(k:Value):Bool:=(aget (inv vS deI es) (vS k)).isSome
def msS(es:Ents)(k v:Value):Ents:=enS (aset (inv vS deI es) (vS k) (deI v))
def mnS(es:Ents)(k v:Value):Nat:=(aset (inv vS deI es) (vS k) (deI v)).length
theorem Fj(a b:LB):eqL a b=decide (a=b):=by
 cases h:eqL a b with
 |true=>simp[(dZ a b).1 h]
 |false=>by_cases e:a=b;rw[(dZ a b).2 e]at h;cases h;simp[e]
theorem koS:KeyOk env 89 9 3 kS (.int .i64 0):=⟨by kernel_rfl,λ_=>rfl,λc k=>by cases c<;>kernel_rfl,⟨.string,by kernel_rfl,.inl λa b=>by show some (eqL a b)=_;rw[Fj]⟩,λk=>by simp[kS,Instr.sameBits,kE,(dZ _ _).2 rfl],⟨_,rfl,rfl,rfl⟩⟩
theorem invS(m:List (LB×Int)):inv vS deI (enS m)=m:=mR (λ_=>rfl) (λ_=>rfl) m
theorem lookS(m:List (LB×Int))(k:LB):cx env 89 (enS m) (kS k)=some (.int .i64 (mgS (enS m) (kS k)),mhS (enS m) (kS k)):=by refine(j8 koS (Value.int .i64) k m).trans ?_;unfold mgS mhS;rw[invS];show _=some (Value.int .i64 ((aget m k).getD 0),(aget m k).isSome);cases aget m k<;>rfl
theorem updS(m:List (LB×Int))(k:LB)(v:Int):aU env 89 (enS m) m.length (kS k) (.int .i64 v)=some (enS (aset m k v),(aset m k v).length):=lT koS (Value.int .i64) k v m
theorem sP(m:List (LB×Int)):HF (.agg ⟨(enS m).map λx=>x.2.1⟩):=qA (λv=>.scal rfl) m
def arD:TypeId->Lk:=λt=>bif Nat.beq t 51 then some 256 else none
def elCl:El:={El.of (λ_ _ els i=>some (.int .i64 (aa els i)))with app:=true,gm:=λ_=>true,ml:=λ_ es k=>some (.int .i64 (mgS es k),mhS es k),mu:=λ_ es _ k v=>some (msS es k v,mnS es k v)}
def XCl:SX:=⟨env,[(47,frmR noAr spKs),(67,frmR noAr spKp)],elCl,λ_=>.autoN [(.cell 0 256,3,1)] [] [] [0,1,4,10]⟩
theorem sN:XCl.Ok:=⟨ak,aA,an,.cons ks_tab (.cons kp_tab .nil)⟩
def nilS:Value:=.slice none 0 0
def groS(B n:Nat):Value:=.slice (some ⟨B,0,none⟩) n (unk+3+1)
def cKs(B:Nat):Value:=.func (.func 47) ⟨[]⟩ ⟨[.pointer (some ⟨B,0,none⟩)]⟩
def cKp(B B2:Nat):Value:=.func (.func 67) ⟨[]⟩ ⟨[.pointer (some ⟨B,0,none⟩),.pointer (some ⟨B2,0,none⟩)]⟩
def dfO(C:Le)(r:Lh):AObj:=.arr (inV C) r 256 51
def hCs0(C:Le)(s:Int)(acc:Li)(nx:La):AH:=⟨Nd (Nd Lf (some (auC s acc nx)) Lf) (some (dfO C [nilS,nilS,nilS])) Lf,2⟩
def hCp0(C:Le)(s:Int)(acc:Li)(nx:La)(s2:Int)(acc2:Li)(nx2:La):AH:=⟨Nd (Nd Lf (some (auC s acc nx)) Lf) (some (dfO C [nilS,nilS,nilS])) (Nd Lf (some (auC s2 acc2 nx2)) Lf),3⟩
def hCs(C F:Le)(ks:List LB)(s:Int)(acc:Li)(nx:La):AH:=⟨(Nd (Nd (Nd Lf (some (.gro (inV F) [] 3)) Lf) (some (auC s acc nx)) Lf) (some (dfO C [groS 3 F.length,nilS,nilS])) (Nd Lf (some (.map (enS (mkM ks)) ks.length)) Lf)),4⟩
def hCp(C F:Le)(ks:List LB)(s:Int)(acc:Li)(nx:La)(s2:Int)(acc2:Li)(nx2:La):AH:=⟨(Nd (Nd (Nd Lf (some (.map (enS (mkM ks)) ks.length)) Lf) (some (auC s acc nx)) Lf) (some (dfO C [groS 4 F.length,nilS,nilS])) (Nd (Nd Lf (some (.gro (inV F) [] 3)) Lf) (some (auC s2 acc2 nx2)) Lf)),5⟩
def frCs(c:Nat):T Value:=(Nd (Nd Lf (some (cKs 1)) Lf) (some (.pointer (some ⟨0,0,none⟩))) (Nd (Nd Lf (some (.map (some 2))) Lf) none (Nd (Nd Lf (some (.int .i64 c)) Lf) none Lf)))
def frCp(c:Nat):T Value:=(Nd (Nd Lf (some (cKp 1 2)) Lf) (some (.pointer (some ⟨0,0,none⟩))) (Nd (Nd Lf (some (.map (some 3))) Lf) none (Nd (Nd Lf (some (.int .i64 c)) Lf) none Lf)))
def Bb(K:KV):KX:=finK XCl.E (f46.results).toList K
def jCs(K:KV)(C:Le)(s:Int)(acc:Li)(nx:La):Prop:=bc XCl 2 f46 [.pointer (some ⟨0,0,none⟩),cKs 1] (hCs0 C s acc nx) K
def jCsL(K:KV)(again:KF)(C0 C F:Le)(ks:List LB)(s:Int)(acc:Li)(nx:La)(c:Nat):Prop:=bh XCl 2 (Func.ntmps f46) (hCs0 C0 s acc nx) (au f46) [1,1,0] (Bb K) [(.cell 0 256,3,1)] [] [] [0,1,4,10] again (frCs c) (hCs C F ks s acc nx)
def jCp(K:KV)(C:Le)(s:Int)(acc:Li)(nx:La)(s2:Int)(acc2:Li)(nx2:La):Prop:=bc XCl 2 f46 [.pointer (some ⟨0,0,none⟩),cKp 1 2] (hCp0 C s acc nx s2 acc2 nx2) K
def jCpL(K:KV)(again:KF)(C0 C F:Le)(ks:List LB)(s:Int)(acc:Li)(nx:La)(s2:Int)(acc2:Li)(nx2:La)(c:Nat):Prop:=bh XCl 2 (Func.ntmps f46) (hCp0 C0 s acc nx s2 acc2 nx2) (au f46) [1,1,0] (Bb K) [(.cell 0 256,3,1)] [] [] [0,1,4,10] again (frCp c) (hCp C F ks s acc nx s2 acc2 nx2)
abbrev C_:=Value.slice none 0 0
abbrev G_:=λa=>Value.map (some a)
abbrev J3:=λa b=>AObj.map a b
abbrev Kb:=λa=>l_ (inV a)
theorem Ko(K:KV)(C:Le)(s:Int)(acc:Li)(nx:La):jCs K C s acc nx=(Kb C/\HF (O_ acc)/\HF (E_ nx)/\HF (Value.agg ⟨[]⟩)/\HF (Value.agg ⟨[]⟩)/\LAtZ XCl 2 f46.ntmps (hCs0 C s acc nx) (au f46) [1,1,0] (finK (SX.E XCl) f46.results.toList K) (Ns (Sg (q_ 47 [] [f_ 1 0])) m_ (No (Sg (G_ 2)) (I_ (Vi 0)))) (V_ (J5 (Sg (AObj.gro [] [] 3)) (k_ s acc nx)) (AObj.arr (inV C) [M' (some ⟨3,0,none⟩),C_,C_] 256 51) (Sg (J3 [] 0)) 4)):=by kernel_rfl
theorem jCs_nf:type_of%(by have h:=@Ko;revert h;delta f_ k_ l_ m_ q_ C_ E_ G_ I_ O_ V_ M' J3 J5 Kb;exact id):=@Ko
abbrev h_:=λa b c=>b_ (some ⟨a,b,none⟩) c
abbrev i_:=λa=>AObj.gro (inV a) [] 3
abbrev J6:=Value.tuple ⟨[]⟩
theorem Kp(K:KV)(again:KF)(C0:Le)(C:Le)(F:Le)(ks:List LB)(s:Int)(acc:Li)(nx:La)(c:Nat):jCsL K again C0 C F ks s acc nx c=(Sp (decide ((c:Int)<256)) (HFs [O_ acc,E_ nx,O_ acc,E_ nx] (PH (Prod.fst (some (okO (k_ s acc nx) (s,g_ acc,c_ nx)/\0<=(c:Int)/\(c:Int)<256),JZ (keyS (c_ nx) (v_ c)),[k_ s acc nx])))/\cx (SX.E XCl) 89 (enS (mkM ks)) (JZ (keyS (c_ nx) (v_ c)))=some (Vi (mgS (enS (mkM ks)) (JZ (keyS (c_ nx) (v_ c)))),mhS (enS (mkM ks)) (JZ (keyS (c_ nx) (v_ c))))/\Sp (! mhS (enS (mkM ks)) (JZ (keyS (c_ nx) (v_ c)))) (aU (SX.E XCl) 89 (enS (mkM ks)) ks.length (JZ (keyS (c_ nx) (v_ c))) (Vi (u_ F.length))=some (msS (enS (mkM ks)) (JZ (keyS (c_ nx) (v_ c))) (Vi (u_ F.length)),mnS (enS (mkM ks)) (JZ (keyS (c_ nx) (v_ c))) (Vi (u_ F.length)))/\(List.all [Vi c] cellv=true/\List.length F+0=List.length (inV F)/\List.length F+(1:Nat)<=(70368744177664:Nat)/\(List.length F+1)*(8:Nat)<=(140737488355328:Nat))/\(0<=(c:Int)/\(c:Int)<256)/\c<256/\l_ (List.set (inV C) c (Vi (u_ F.length)))/\HF (O_ acc)/\HF (E_ nx)/\l_ (mvl (msS (enS (mkM ks)) (JZ (keyS (c_ nx) (v_ c))) (Vi (u_ F.length))))/\l_ (inV F++[Vi c])/\again (Ns (Sg (q_ 47 [] [f_ 1 0])) m_ (No (Sg (G_ 2)) (No (z_ ((c:Int)+1)) Lf))) (V_ (J5 (Sg (o_ (inV F++[Vi c]) 3)) (k_ s acc nx)) (AObj.arr (List.set (inV C) c (Vi (u_ F.length))) [h_ 3 0 (List.length F+1),C_,C_] 256 51) (Sg (J3 (msS (enS (mkM ks)) (JZ (keyS (c_ nx) (v_ c))) (Vi (u_ F.length))) (mnS (enS (mkM ks)) (JZ (keyS (c_ nx) (v_ c))) (Vi (u_ F.length))))) 4)) ((0<=(c:Int)/\(c:Int)<256)/\c<256/\l_ (List.set (inV C) c (Vi (mgS (enS (mkM ks)) (JZ (keyS (c_ nx) (v_ c))))))/\HF (O_ acc)/\HF (E_ nx)/\l_ (mvl (enS (mkM ks)))/\Kb F/\again (Ns (Sg (q_ 47 [] [f_ 1 0])) m_ (No (Sg (G_ 2)) (No (z_ ((c:Int)+1)) Lf))) (V_ (J5 (Sg (i_ F)) (k_ s acc nx)) (AObj.arr (List.set (inV C) c (Vi (mgS (enS (mkM ks)) (JZ (keyS (c_ nx) (v_ c)))))) [h_ 3 0 F.length,C_,C_] 256 51) (Sg (J3 (enS (mkM ks)) ks.length)) 4))) (K J6 (V_ (J5 (Sg (i_ F)) (k_ s acc nx)) (AObj.arr (inV C) [h_ 3 0 F.length,C_,C_] 256 51) (Sg (J3 (enS (mkM ks)) ks.length)) 4))):=by kernel_rfl
theorem DV:type_of%(by have h:=@Kp;revert h;delta b_ c_ f_ g_ h_ i_ k_ l_ m_ o_ q_ u_ v_ z_ C_ E_ G_ O_ V_ JZ J3 J5 J6 Kb;exact id):=@Kp
theorem Kq(K:KV)(C:Le)(s:Int)(acc:Li)(nx:La)(s2:Int)(acc2:Li)(nx2:La):jCp K C s acc nx s2 acc2 nx2=(Kb C/\HF (O_ acc)/\HF (E_ nx)/\HF (O_ acc2)/\HF (E_ nx2)/\HF (Value.agg ⟨[]⟩)/\HF (Value.agg ⟨[]⟩)/\LAtZ XCl 2 f46.ntmps (hCp0 C s acc nx s2 acc2 nx2) (au f46) [1,1,0] (finK (SX.E XCl) f46.results.toList K) (Ns (Sg (q_ 67 [] [f_ 1 0,f_ 2 0])) m_ (No (Sg (G_ 3)) (I_ (Vi 0)))) (V_ (J5 (Sg (J3 [] 0)) (k_ s acc nx)) (AObj.arr (inV C) [M' (some ⟨4,0,none⟩),C_,C_] 256 51) (J5 (Sg (AObj.gro [] [] 3)) (k_ s2 acc2 nx2)) 5)):=by kernel_rfl
theorem jCp_nf:type_of%(by have h:=@Kq;revert h;delta f_ k_ l_ m_ q_ C_ E_ G_ I_ O_ V_ M' J3 J5 Kb;exact id):=@Kq
theorem Kr(K:KV)(again:KF)(C0:Le)(C:Le)(F:Le)(ks:List LB)(s:Int)(acc:Li)(nx:La)(s2:Int)(acc2:Li)(nx2:La)(c:Nat):jCpL K again C0 C F ks s acc nx s2 acc2 nx2 c=(Sp (decide ((c:Int)<256)) (HFs [O_ acc,E_ nx,O_ acc2,E_ nx2,O_ acc,E_ nx,O_ acc2,E_ nx2] (PH (Prod.fst (some (okO (k_ s acc nx) (s,g_ acc,c_ nx)/\okO (k_ s2 acc2 nx2) (s2,g_ acc2,c_ nx2)/\0<=(c:Int)/\(c:Int)<256),JZ (keyP (c_ nx) (c_ nx2) (v_ c)),[k_ s acc nx,k_ s2 acc2 nx2])))/\cx (SX.E XCl) 89 (enS (mkM ks)) (JZ (keyP (c_ nx) (c_ nx2) (v_ c)))=some (Vi (mgS (enS (mkM ks)) (JZ (keyP (c_ nx) (c_ nx2) (v_ c)))),mhS (enS (mkM ks)) (JZ (keyP (c_ nx) (c_ nx2) (v_ c))))/\Sp (! mhS (enS (mkM ks)) (JZ (keyP (c_ nx) (c_ nx2) (v_ c)))) (aU (SX.E XCl) 89 (enS (mkM ks)) ks.length (JZ (keyP (c_ nx) (c_ nx2) (v_ c))) (Vi (u_ F.length))=some (msS (enS (mkM ks)) (JZ (keyP (c_ nx) (c_ nx2) (v_ c))) (Vi (u_ F.length)),mnS (enS (mkM ks)) (JZ (keyP (c_ nx) (c_ nx2) (v_ c))) (Vi (u_ F.length)))/\(List.all [Vi c] cellv=true/\List.length F+0=List.length (inV F)/\List.length F+(1:Nat)<=(70368744177664:Nat)/\(List.length F+1)*(8:Nat)<=(140737488355328:Nat))/\(0<=(c:Int)/\(c:Int)<256)/\c<256/\l_ (List.set (inV C) c (Vi (u_ F.length)))/\HF (O_ acc)/\HF (E_ nx)/\HF (O_ acc2)/\HF (E_ nx2)/\l_ (mvl (msS (enS (mkM ks)) (JZ (keyP (c_ nx) (c_ nx2) (v_ c))) (Vi (u_ F.length))))/\l_ (inV F++[Vi c])/\again (Ns (Sg (q_ 67 [] [f_ 1 0,f_ 2 0])) m_ (No (Sg (G_ 3)) (No (z_ ((c:Int)+1)) Lf))) (V_ (J5 (Sg (J3 (msS (enS (mkM ks)) (JZ (keyP (c_ nx) (c_ nx2) (v_ c))) (Vi (u_ F.length))) (mnS (enS (mkM ks)) (JZ (keyP (c_ nx) (c_ nx2) (v_ c))) (Vi (u_ F.length))))) (k_ s acc nx)) (AObj.arr (List.set (inV C) c (Vi (u_ F.length))) [h_ 4 0 (List.length F+1),C_,C_] 256 51) (J5 (Sg (o_ (inV F++[Vi c]) 3)) (k_ s2 acc2 nx2)) 5)) ((0<=(c:Int)/\(c:Int)<256)/\c<256/\l_ (List.set (inV C) c (Vi (mgS (enS (mkM ks)) (JZ (keyP (c_ nx) (c_ nx2) (v_ c))))))/\HF (O_ acc)/\HF (E_ nx)/\HF (O_ acc2)/\HF (E_ nx2)/\l_ (mvl (enS (mkM ks)))/\Kb F/\again (Ns (Sg (q_ 67 [] [f_ 1 0,f_ 2 0])) m_ (No (Sg (G_ 3)) (No (z_ ((c:Int)+1)) Lf))) (V_ (J5 (Sg (J3 (enS (mkM ks)) ks.length)) (k_ s acc nx)) (AObj.arr (List.set (inV C) c (Vi (mgS (enS (mkM ks)) (JZ (keyP (c_ nx) (c_ nx2) (v_ c)))))) [h_ 4 0 F.length,C_,C_] 256 51) (J5 (Sg (i_ F)) (k_ s2 acc2 nx2)) 5))) (K J6 (V_ (J5 (Sg (J3 (enS (mkM ks)) ks.length)) (k_ s acc nx)) (AObj.arr (inV C) [h_ 4 0 F.length,C_,C_] 256 51) (J5 (Sg (i_ F)) (k_ s2 acc2 nx2)) 5))):=by kernel_rfl
theorem DX:type_of%(by have h:=@Kr;revert h;delta b_ c_ f_ g_ h_ i_ k_ l_ m_ o_ q_ u_ v_ z_ C_ E_ G_ O_ V_ JZ J3 J5 J6 Kb;exact id):=@Kr
def clsF(key:Nat->LB):Nat->Lg
 |0=>[]
 |n+1=>if key n∈(clsF key n).map key then clsF key n else clsF key n++[n]
def clsK(key:Nat->LB)(n:Nat):List LB:=(clsF key n).map key
def clsC(key:Nat->LB):Nat->Le
 |0=>List.replicate 256 0
 |n+1=>(clsC key n).set n (idN (clsK key n) (key n):Nat)
def clsI(key:Nat->LB)(n:Nat):Le:=(clsF key n).map Int.ofNat
theorem cA(key:Nat->LB):∀ n,∀x∈clsF key n,x<n
 |0,x,h=>by simp[clsF]at h
 |n+1,x,h=>by unfold clsF at h;split at h;have:=cA key n x h;omega;rcases GW.1 h with h|h;have:=cA key n x h;omega;simp at h;omega
theorem dn(key:Nat->LB):∀ n,(clsF key n).length<=n
 |0=>by simp[clsF]
 |n+1=>by have:=dn key n;unfold clsF;split;omega;rw[Gx];simp;omega
theorem gW(key:Nat->LB)(n:Nat):(clsK key n).length=(clsF key n).length:=GB _
theorem sB(key:Nat->LB)(n:Nat):(clsI key n).length=(clsF key n).length:=GB _
theorem jt(key:Nat->LB):∀ n,(clsC key n).length=256
 |0=>by simp[clsC]
 |n+1=>by simp[clsC,jt key n]
theorem ab(l:Le):HF (.agg ⟨inV l⟩):=.agg (pi l)
theorem cr(l:Le)(i:Nat)(x:Int):(inV l).set i (.int .i64 x)=inV (l.set i x):=by unfold inV;rw[List.map_set]
theorem pQ(l r:Le):inV l++inV r=inV (l++r):=by unfold inV;rw[List.map_append]
theorem y6(ks:List LB)(k:LB):mhS (enS (mkM ks)) (kS k)=decide (k∈ks):=by unfold mhS;rw[invS];show(aget (mkM ks) k).isSome=_;rw[iy];by_cases h:k∈ks<;>simp[h]
theorem mgS_e(ks:List LB)(k:LB)(h:k∈ks):mgS (enS (mkM ks)) (kS k)=(idN ks k:Nat):=by unfold mgS;rw[invS];show(aget (mkM ks) k).getD 0=_;rw[iy,Gw h];rfl
theorem msS_e(ks:List LB)(k:LB)(h:¬ k∈ks):msS (enS (mkM ks)) (kS k) (.int .i64 (ks.length:Nat))=enS (mkM (ks++[k])):=by unfold msS;rw[invS];show enS (aset (mkM ks) k ((ks.length:Nat):Int))=_;rw[dS h]
theorem mnS_e(ks:List LB)(k:LB)(h:¬ k∈ks):mnS (enS (mkM ks)) (kS k) (.int .i64 (ks.length:Nat))=(ks++[k]).length:=by unfold mnS;rw[invS];show(aset (mkM ks) k ((ks.length:Nat):Int)).length=_;rw[dS h,dT]
theorem Ah(ks:List LB)(k:LB)(h:¬ k∈ks):aU env 89 (enS (mkM ks)) ks.length (kS k) (.int .i64 (ks.length:Nat))=some (enS (mkM (ks++[k])),(ks++[k]).length):=by have:=updS (mkM ks) k (ks.length:Nat);rw[dT,dS h,dT]at this;exact this
theorem gX(h:key n∈clsK key n):clsF key (n+1)=clsF key n:=Gw h
theorem gY(h:¬ key n∈clsK key n):clsF key (n+1)=clsF key n++[n]:=D' h
theorem sw(h:¬ key n∈clsK key n):clsK key (n+1)=clsK key n++[key n]:=by show(clsF key (n+1)).map key=_;rw[gY h,List.map_append];rfl
theorem sv(h:key n∈clsK key n):clsK key (n+1)=clsK key n:=by show(clsF key (n+1)).map key=_;rw[gX h];rfl
theorem sA(h:¬ key n∈clsK key n):clsI key (n+1)=clsI key n++[(n:Int)]:=by show(clsF key (n+1)).map _=_;rw[gY h,List.map_append];rfl
theorem sy(h:key n∈clsK key n):clsI key (n+1)=clsI key n:=by show(clsF key (n+1)).map _=_;rw[gX h];rfl
theorem sC(h:¬ key n∈clsK key n):clsC key (n+1)=(clsC key n).set n ((clsF key n).length:Nat):=by show(clsC key n).set n _=_;rw[jn h,gW]
def hCsE(C F:Le)(s:Int)(acc:Li)(nx:La):AH:=⟨(Nd (Nd Lf (some (auC s acc nx)) Lf) (some (dfO C [groS 2 F.length,nilS,nilS])) (Nd Lf (some (.gro (inV F) [] 3)) Lf)),3⟩
def hCpE(C F:Le)(s:Int)(acc:Li)(nx:La)(s2:Int)(acc2:Li)(nx2:La):AH:=⟨(Nd (Nd (Nd Lf (some (.gro (inV F) [] 3)) Lf) (some (auC s acc nx)) Lf) (some (dfO C [groS 3 F.length,nilS,nilS])) (Nd Lf (some (auC s2 acc2 nx2)) Lf)),4⟩
theorem end_cs(Q:Value->AH->Prop)(a C F:Le)(ks:List LB)(s:Int)(acc:Li)(nx:La):endF env (hCs0 a s acc nx) [] [] [] Q (.tuple ⟨[]⟩) (hCs C F ks s acc nx)=(HF (.agg ⟨inV C⟩)/\HF (dat 1 (blV acc))/\HF (dat 1 (roV nx))/\HF (.agg ⟨inV F⟩)/\Q (.tuple ⟨[]⟩) (hCsE C F s acc nx)):=by kernel_rfl
theorem end_cp(Q:Value->AH->Prop)(d C F:Le)(ks:List LB)(s:Int)(acc:Li)(nx:La)(c:Int)(a:Li)(b:La):endF env (hCp0 d s acc nx c a b) [] [] [] Q (.tuple ⟨[]⟩) (hCp C F ks s acc nx c a b)=(HF (.agg ⟨inV C⟩)/\HF (dat 1 (blV acc))/\HF (dat 1 (roV nx))/\HF (dat 1 (blV a))/\HF (dat 1 (roV b))/\HF (.agg ⟨inV F⟩)/\Q (.tuple ⟨[]⟩) (hCpE C F s acc nx c a b)):=by kernel_rfl
def z256:Le:=List.replicate 256 0
theorem FH{a:AU}(h:OkA a):WalkF env f46 [.pointer (some ⟨0,0,none⟩),cKs 1] (hCs0 z256 a.1 a.2.1 a.2.2) (.tuple ⟨[]⟩) (hCsE (clsC (keyS a.2.2) 256) (clsI (keyS a.2.2) 256) a.1 a.2.1 a.2.2):=by
 obtain⟨s,e,i⟩:=a;refine aq sN (d:=2) (ns:=[]) (zs:=[]) (ws:=[]) ((jCs_nf _ z256 s e i).mpr ⟨ab _,.dat (aG _),.dat (aC _),ab [],ab [],?_⟩);generalize l:keyS i=key;refine LAtZ.stepF sN [(.cell 0 256,3,1)] [] [] [0,1,4,10] (by kernel_rfl) (λk F A=>∃ c:Nat,F=frCs c/\A=hCs (clsC key c) (clsI key c) (clsK key c) s e i/\c+k=256) ?_ (k:=256) ⟨0,rfl,rfl,by omega⟩;rintro k F A ⟨c,rfl,rfl,m⟩;have j:=dn key c;have f:=sB key c;have b:=gW key c;refine(DV _ _ z256 _ _ _ s e i c).mpr (Sp.intro (λq=>?_) (λq=>?_));have q:=odt q;rw[aO,Gz,l];have o:Vs (ByteArray.mk (Array.mk (key c)))=kS (key c):=rfl;rw[o,f,<-b,y6];refine⟨⟨.dat (aG _),.dat (aC _),.dat (aG _),.dat (aC _),⟨by rw[aT];rfl,by rw[aT];exact h⟩,by omega,by omega⟩,(lookS _ _).trans (by rw[y6]),Sp.intro (λg=>?_) (λg=>?_)⟩;have g:¬ key c∈clsK key c:=by simpa using g
 rw[msS_e _ _ g,mnS_e _ _ g,cr,show [Vi (c:Int)]=inV [(c:Int)]from rfl,pQ,aM (x:=(c:Int)+1) (by omega) (by omega)];refine⟨Ah _ _ g,⟨rfl,by rw[aj];omega,by omega,by omega⟩,⟨by omega,by omega⟩,by omega,ab _,.dat (aG _),.dat (aC _),sP _,ab _,k-1,by omega,c+1,rfl,?_,by omega⟩;rw[sC g,sA g,sw g];unfold hCs;rw[show(clsI key c++[(c:Int)]).length=(clsK key c).length+1 by rw[Gx,f,<-b];rfl,<-b];rfl;have g:key c∈clsK key c:=by simpa using g
 rw[mgS_e _ _ g,cr,aM (x:=(c:Int)+1) (by omega) (by omega)];refine⟨⟨by omega,by omega⟩,by omega,ab _,.dat (aG _),.dat (aC _),sP _,ab _,k-1,by omega,c+1,rfl,?_,by omega⟩;rw[show clsC key (c+1)=(clsC key c).set c (idN (clsK key c) (key c):Nat)from rfl,sy g,sv g];unfold hCs;rw[f,<-b];rfl;have q:=odf q;obtain rfl:c=256:=by omega
 refine(end_cs _ z256 _ _ _ s e i).mpr ⟨ab _,.dat (aG _),.dat (aC _),ab _,rfl,?_⟩;rw[<-l]
theorem FI{a b:AU}(h:OkA a)(u:OkA b):WalkF env f46 [.pointer (some ⟨0,0,none⟩),cKp 1 2] (hCp0 z256 a.1 a.2.1 a.2.2 b.1 b.2.1 b.2.2) (.tuple ⟨[]⟩) (hCpE (clsC (keyP a.2.2 b.2.2) 256) (clsI (keyP a.2.2 b.2.2) 256) a.1 a.2.1 a.2.2 b.1 b.2.1 b.2.2):=by
 obtain⟨s,j,m⟩:=a;obtain⟨o,e,f⟩:=b;refine aq sN (d:=2) (ns:=[]) (zs:=[]) (ws:=[]) ((jCp_nf _ z256 s j m o e f).mpr ⟨ab _,.dat (aG _),.dat (aC _),.dat (aG _),.dat (aC _),ab [],ab [],?_⟩);generalize r:keyP m f=key;refine LAtZ.stepF sN [(.cell 0 256,3,1)] [] [] [0,1,4,10] (by kernel_rfl) (λk F A=>∃ c:Nat,F=frCp c/\A=hCp (clsC key c) (clsI key c) (clsK key c) s j m o e f/\c+k=256) ?_ (k:=256) ⟨0,rfl,rfl,by omega⟩;rintro k F A ⟨c,rfl,rfl,t⟩;have p:=dn key c;have l:=sB key c;have i:=gW key c;refine(DX _ _ z256 _ _ _ s j m o e f c).mpr (Sp.intro (λq=>?_) (λq=>?_));have q:=odt q;rw[aO,aO,Gz,r];have v:Vs (ByteArray.mk (Array.mk (key c)))=kS (key c):=rfl;rw[v,l,<-i,y6];refine⟨⟨.dat (aG _),.dat (aC _),.dat (aG _),.dat (aC _),.dat (aG _),.dat (aC _),.dat (aG _),.dat (aC _),⟨by rw[aT];rfl,by rw[aT];exact h⟩,⟨by rw[aT];rfl,by rw[aT];exact u⟩,by omega,by omega⟩,(lookS _ _).trans (by rw[y6]),Sp.intro (λg=>?_) (λg=>?_)⟩;have g:¬ key c∈clsK key c:=by simpa using g
 rw[msS_e _ _ g,mnS_e _ _ g,cr,show [Vi (c:Int)]=inV [(c:Int)]from rfl,pQ,aM (x:=(c:Int)+1) (by omega) (by omega)];refine⟨Ah _ _ g,⟨rfl,by rw[aj];omega,by omega,by omega⟩,⟨by omega,by omega⟩,by omega,ab _,.dat (aG _),.dat (aC _),.dat (aG _),.dat (aC _),sP _,ab _,k-1,by omega,c+1,rfl,?_,by omega⟩;rw[sC g,sA g,sw g];unfold hCp;rw[show(clsI key c++[(c:Int)]).length=(clsK key c).length+1 by rw[Gx,l,<-i];rfl,<-i];rfl;have g:key c∈clsK key c:=by simpa using g
 rw[mgS_e _ _ g,cr,aM (x:=(c:Int)+1) (by omega) (by omega)];refine⟨⟨by omega,by omega⟩,by omega,ab _,.dat (aG _),.dat (aC _),.dat (aG _),.dat (aC _),sP _,ab _,k-1,by omega,c+1,rfl,?_,by omega⟩;rw[show clsC key (c+1)=(clsC key c).set c (idN (clsK key c) (key c):Nat)from rfl,sy g,sv g];unfold hCp;rw[l,<-i];rfl;have q:=odf q;obtain rfl:c=256:=by omega
 refine(end_cp _ z256 _ _ _ s j m o e f).mpr ⟨ab _,.dat (aG _),.dat (aC _),.dat (aG _),.dat (aC _),ab _,rfl,?_⟩;rw[<-r]
abbrev PR:=Int×Int
def prV(k:PR):Value:=.agg ⟨[.int .i64 k.1,.int .i64 k.2]⟩
inductive CF where
 |c0|c1|c2|c3
def CF.id:CF->FuncId
 | .c0=>34
 | .c1=>20
 | .c2=>22
 | .c3=>23
def CF.f:CF->Bool->Bool->Bool
 | .c0,x,y=>bif y then !x else false
 | .c1,x,y=>bif x then y else false
 | .c2,x,y=>bif x then true else y
 | .c3,x,y=>bif x then !y else false
def coX1(g:CF):Lh->Lj
 | [.bool x,.bool y]=>some (.bool (g.f x y))
 |_=>none
def XCv:SX:=⟨env,[],noEl,λ_=>.unroll 0⟩
theorem sM:XCv.Ok:=⟨ak,aA,an,.nil⟩
def jCv0(K:KV)(x y:Bool):Prop:=bc XCv 1 f34 [.bool x,.bool y] ⟨.leaf,0⟩ K
def jCv1(K:KV)(x y:Bool):Prop:=bc XCv 1 f20 [.bool x,.bool y] ⟨.leaf,0⟩ K
def jCv2(K:KV)(x y:Bool):Prop:=bc XCv 1 f22 [.bool x,.bool y] ⟨.leaf,0⟩ K
def jCv3(K:KV)(x y:Bool):Prop:=bc XCv 1 f23 [.bool x,.bool y] ⟨.leaf,0⟩ K
def clV(g:CF):Value:=.func (.func g.id) ⟨[]⟩ ⟨[]⟩
def fnO(g:CF):AObj:=.cells [clV g] 43
def hA3(g:CF)(s:Int)(acc:Li)(nx:La)(s2:Int)(acc2:Li)(nx2:La):AH:=⟨(Nd (Nd Lf (some (auC s acc nx)) Lf) (some (fnO g)) (Nd Lf (some (auC s2 acc2 nx2)) Lf)),3⟩
def XSp:SX:=⟨env,[],elT [11,20] [],λ_=>.unroll 0⟩
theorem XSp_ok:XSp.Ok:=⟨ak,aA,an,.nil⟩
def XSs:SX:=⟨env,[],elT [10] [],λ_=>.unroll 0⟩
theorem XSs_ok:XSs.Ok:=⟨ak,aA,an,.nil⟩
def XAs:SX:=⟨env,[],elB,λ_=>.unroll 0⟩
theorem XAs_ok:XAs.Ok:=⟨ak,aA,an,.nil⟩
def XAp:SX:=⟨env,[(34,bw (λ_=>none) (coX1 .c0)),(20,bw (λ_=>none) (coX1 .c1)),(22,bw (λ_=>none) (coX1 .c2)),(23,bw (λ_=>none) (coX1 .c3))],elB,λ_=>.unroll 0⟩
def jSp(K:KV)(x y c:Int)(s:Int)(acc:Li)(nx:La)(s2:Int)(acc2:Li)(nx2:La):Prop:=bc XSp 1 f69 [.agg ⟨[.int .i64 x,.int .i64 y]⟩,.int .i64 c,.pointer (some ⟨0,0,none⟩),.pointer (some ⟨1,0,none⟩)] (hA2 s acc nx s2 acc2 nx2) K
def jSs(K:KV)(x y c:Int)(s:Int)(acc:Li)(nx:La):Prop:=bc XSs 1 f51 [.agg ⟨[.int .i64 x,.int .i64 y]⟩,.int .i64 c,.pointer (some ⟨0,0,none⟩)] (hA1 s acc nx) K
def jAs(K:KV)(x y:Int)(s:Int)(acc:Li)(nx:La):Prop:=bc XAs 1 f49 [.agg ⟨[.int .i64 x,.int .i64 y]⟩,.pointer (some ⟨0,0,none⟩)] (hA1 s acc nx) K
def jAp0(K:KV)(x y:Int)(s:Int)(acc:Li)(nx:La)(s2:Int)(acc2:Li)(nx2:La):Prop:=bc XAp 1 f68 [.agg ⟨[.int .i64 x,.int .i64 y]⟩,.pointer (some ⟨0,0,none⟩),.pointer (some ⟨1,0,none⟩),.pointer (some ⟨2,0,none⟩)] (hA3 .c0 s acc nx s2 acc2 nx2) K
def jAp1(K:KV)(x y:Int)(s:Int)(acc:Li)(nx:La)(s2:Int)(acc2:Li)(nx2:La):Prop:=bc XAp 1 f68 [.agg ⟨[.int .i64 x,.int .i64 y]⟩,.pointer (some ⟨0,0,none⟩),.pointer (some ⟨1,0,none⟩),.pointer (some ⟨2,0,none⟩)] (hA3 .c1 s acc nx s2 acc2 nx2) K
def jAp2(K:KV)(x y:Int)(s:Int)(acc:Li)(nx:La)(s2:Int)(acc2:Li)(nx2:La):Prop:=bc XAp 1 f68 [.agg ⟨[.int .i64 x,.int .i64 y]⟩,.pointer (some ⟨0,0,none⟩),.pointer (some ⟨1,0,none⟩),.pointer (some ⟨2,0,none⟩)] (hA3 .c2 s acc nx s2 acc2 nx2) K
def jAp3(K:KV)(x y:Int)(s:Int)(acc:Li)(nx:La)(s2:Int)(acc2:Li)(nx2:La):Prop:=bc XAp 1 f68 [.agg ⟨[.int .i64 x,.int .i64 y]⟩,.pointer (some ⟨0,0,none⟩),.pointer (some ⟨1,0,none⟩),.pointer (some ⟨2,0,none⟩)] (hA3 .c3 s acc nx s2 acc2 nx2) K
end
end Go.T9
