/- A part of the proof. -/
import Derived.Test.YtegefclhhjbfhaaGreatDoorB
import Derived.Scope
import Derived.Laws.LoneSync
import Derived.Carry
import Derived.ChangeSame
import Derived.Deep.Slices
import Derived.ChangeArms
import Derived.WideShapes
set_option linter.unusedVariables false
set_option linter.unusedSimpArgs false
namespace Go.AM
noncomputable section
abbrev _root_.Go.Ir:=@Nat.le_add_right
theorem ExtG.trans0{σ0 σ σ':Sig}{g0 g E:Nat->Option AObj}{C n D:Nat}{w0 w w':World}(h:ExtG σ0 g0 C w0 σ g n w)(k:ExtG σ g C w σ' E D w'):ExtG σ0 g0 C w0 σ' E D w' where
 sig B hB:=(k.sig B hB).trans (h.sig B hB)
 snl B hB:=(k.snl B hB).trans (h.snl B hB)
 next:=k.next
 size:=IK h.size k.size
 frame b hb hn:=by refine(k.frame b (HN hb h.size) λB o x d t s e=>?_).trans (h.frame b hb hn);rcases h.orig B o x d t s with a|⟨p,i,f,m,l,j,c⟩;omega;exact hn p i f m l j (c.trans e)
 orig B o x d t s:=by rcases k.orig B o x d t s with a|⟨p,i,f,m,l,j,c⟩;exact .inl (IK h.size a);rcases h.orig p i f m l j with a|⟨A,r,q,z,y,v,u⟩;exact .inl (c▸a);exact .inr ⟨A,r,q,z,y,v,u.trans c⟩
 orig2 B o x d t s:=by rcases k.orig2 B o x d t s with a|⟨p,i,f,m,l,j,c⟩;exact .inl (IK h.size a);rcases h.orig2 p i f m l j with a|⟨A,r,q,z,y,v,u⟩;exact .inl (c▸a);exact .inr ⟨A,r,q,z,y,v,u.trans c⟩
 os:=k.os.trans h.os
 tape:=k.tape.trans h.tape
 output:=k.output.trans h.output
 sro b o hb:=k.sro b o (h.sro b o hb)
 rog b o hb:=by rcases k.rog b o hb with d|d|⟨p,i,f,m,l,j,c⟩;exact h.rog b o d;exact .inr (.inl (IK h.size d));rcases h.orig p i f m l j with a|⟨A,r,q,z,y,v,u⟩;exact .inr (.inl (c▸a));exact .inr (.inr ⟨A,r,q,z,y,v,u.trans c⟩)
section
variable {call:bV}{E:Env}{ops:Array Oper}{ms:Lg}{n n0:Nat}{F0:T Value}{fs:List (T Value)}{vs:Lh}{cs:List AH}{es:Lg}{als:List Al}
 {σ0:Sig}{g0:Nat->Option AObj}{w0:World}{L:Nat->Bool}{e:Nat}{σ:Sig}{a:Act}{w:World}{i:Nat}{o:Oper}
theorem dst_lt{n:Nat}{F f:T Value}{b:Option Tmp}{v:Value}(h:put n F b v=some f):∀ d,b=some d->d<n:=by rintro d rfl;simp only[put]at h;cases c:Nat.blt d n;rw[c]at h;simp at h;rw[blt_eq,GQ]at c;exact c
theorem bn{i j:Nat}{L:Nat->Bool}:(decide (j=i)||L j)=true↔j=i∨L j=true:=by simp
theorem St.plain(A:SF E ops ms)(N:TR call E ops ms n n0 F0 fs vs cs es als)(st:St E ops n n0 F0 vs cs es als σ0 g0 w0 L e σ a w)(m:ops[i]? =some o)(u:L i=false)
 (F:∀ l∈o.after.toList,Region.binds .any l=true->L l.on=true) {v v':Value}(D:vs[i]? =some v) (q:VR σ v v') (I:∀ d,o.dst=some d->d<n) (s:i ∉ es) (t:∀ x∈als,x.1≠i):
 St E ops n n0 F0 vs cs es als σ0 g0 w0 (λj=>decide (j=i)||L j) e σ (a.put o.dst v') w:=by
 have H:i<ops.size:=by rcases Hg i ops.size with h|h;exact h;rw[He h]at m;cases m
 refine⟨?_,?_,?_,?_,?_,io A st m u D ⟨λ_ _ h=>h,λ_ _ h=>h⟩ q I,?_,st.glob,?_⟩;intro f C c b l k z;rw[bn]at b ⊢;right;rcases b with rfl|b;rw[m,osI]at c;subst c;exact F l k z;exact st.cl f C c b l k z;intro f b;rw[bn]at b;rcases b with rfl|b;exact H;exact st.lt f b;intro j f y;have r:f≠i:=by rintro rfl;exact s (GM y)
 rw[bn];rw[<-st.ef j f y];constructor;rintro(h|h);exact absurd h r;exact h;exact .inr;cases h:o.dst with
 |none=>exact st.sz
 |some d=>simp[Act.put,st.sz]
 cases h:o.dst with
 |none=>exact st.df
 |some d=>simp[Act.put,st.df]
 intro x p b;refine st.free x p ?_;simp only[H4]at b;exact b.2;obtain⟨G,M,K,J⟩:=st.rel;have g:gf als G (λj=>decide (j=i)||L j)=gf als G L:=by funext B;exact EW (λx p=>by simp[t x p]) B
 exact⟨G,M,by rw[g];exact K,by rw[g];exact J⟩
theorem nV(f:SF E ops ms)(c:TR call E ops ms n n0 F0 fs vs cs es als)(st:St E ops n n0 F0 vs cs es als σ0 g0 w0 L e σ a w)(p:ops[i]? =some o)
 (m:∀ d∈o.after.toList,Region.binds .any d=true->L d.on=true) {G H:AH}(r:b6 ((nth ms i).getD 0) als G=some H):
 H.next=G.next/\(∀B ob,H.t.get B=some ob->ob.here=true->gf als G L B=some ob)/\(∀B ob,vis G B=some ob->vis H B=some ob):=by obtain⟨s1,k,g,u⟩:=fH r (λx l=>AObj.here_of_own (c.als_ok.own x l));refine⟨s1,λB ob s q=>?_,g⟩;rcases k B ob (vis_some.2 ⟨s,q⟩)with h|⟨h1,j,h2,h3⟩;exact kj h;have b:L j=true:=f.anc (λi=>L i=true) st.cl i o p m j h3;exact tM c.als_ok h2 b h1
theorem s7(ok:E.Ok)(hc:fp E call)(sf:SF E ops ms)(C:TR call E ops ms n n0 F0 fs vs cs es als)(st:St E ops n n0 F0 vs cs es als σ0 g0 w0 L e σ a w)(ho:ops[i]? =some o)(S:L i=false)
 (hr:∀ ed∈o.after.toList,Region.binds .any ed=true->L ed.on=true) {K:Act->World->Prop}{Q:Exit->Act->World->Prop}
 (hK:∀ e' σ' a' w',St E ops n n0 F0 vs cs es als σ0 g0 w0 (λj=>decide (j=i)||L j) e' σ' a' w'->K a' w'):wpOp E.P ops Q i K a w:=by
 have hi:i<ops.size:=by rcases Hg i ops.size with h|h;exact h;rw[He h]at ho;cases ho
 obtain⟨F,F',v,hF,g7,hv,d7,d5⟩:=C.row i o ho;have hd:=dst_lt d7;have c1:∀ j,bit ms i j=true->L j=true:=sf.anc (λi=>L i=true) st.cl i o ho hr;have a9:∀ t,t∈o.looksAt ops->VO σ (slot F t) (a.tmps.getD t undef):=λt ht=>tn sf C st ho hF S hr ht;have c3:OpR σ (rho E F (bG o.op)) a.eval:=CX st.glob λt ht=>a9 t (sU ops o ht);have R:∀ r,cw ops.toList F o=some r->Region.wanted o (yielded ops a.tmps)=r:=by intro r c6;refine lS (σ:=σ) (λj g6 oj d hg hj e2=>a9 d ?_) c6;unfold Oper.looksAt;refine List.mem_append_right _ ?_;rw[hg];simp[hj,e2]
 unfold wpOp;simp only[ho];rcases d5 with⟨hw,rfl,b1,b4⟩|⟨hw,b1,b4,hq⟩|⟨hw,b1,ob,fv,e4,a8,rfl⟩|⟨hw,b4,e',G,G',H,he,hG,f9,hH,e1,d0⟩;rw[R _ hw,D' (by simp)];exact hK e σ _ w (st.plain sf C ho S hr hv (cz σ) hd b1 b4);rw[R _ hw,Gw rfl];left;obtain⟨G,hG,g,a4⟩:=st.rel;obtain⟨H,hH,b5⟩:=hq e G hG (λj M hj V=>(st.ef j M hj).1 (c1 M V)) (λj M hj a1=>by cases V:bit ms M i;rfl;have s:=(st.ef j M hj).2 a1;have:=sf.closed (λi=>L i=true) st.cl M (st.lt M s) s i V;rw[S]at this;cases this)
 obtain⟨p1,p2,p3⟩:=nV sf C st ho hr hH;have RH:Rel E.P σ H w:=RelG.fewer g p2 (λB hB=>g.fresh B (by rw[p1]at hB;exact hB)) (λB h=>by rw[p1];exact(g.nl B h).1);obtain⟨v',p,m⟩:=qW ok RH c3 b5;unfold Oper.wp;rw[p];exact hK e σ _ w (st.plain sf C ho S hr hv m hd b1 b4);rw[R _ hw,Gw rfl];left;obtain⟨G,hG,g,a4⟩:=st.rel;obtain⟨f1,h0,p,m,U,h4⟩:=nA ok c3 e4;have b0:σ (n0+i)=none:=(st.free _ a8 S).1;have c0:¬ σ.nl (n0+i):=(st.free _ a8 S).2;have f2:vis G (n0+i)=none:=by
  cases a7:vis G (n0+i)with
  |none=>rfl
  |some x=>rcases g.obj0 _ _ (kj a7) (vis_some.1 a7).2 with⟨b,d,c,V,_⟩|⟨_,V⟩;rw[b0]at V;cases V;exact absurd V c0
 have e0:∀ B,gf als G (λj=>decide (j=i)||L j) B=if B=n0+i then some ob else gf als G L B:=by intro B;by_cases eB:B=n0+i;rw[Gw eB,eB];exact tM C.als_ok a8 (by simp) f2;rw[D' eB];apply Option.ext;intro x;constructor;intro z;rcases m6 z with h|⟨p,j,m,U⟩;exact kj h;refine tM C.als_ok m ?_ p;rw[bn]at U;rcases U with rfl|U;have:=C.als_ok.id _ m;exact absurd this eB;exact U;intro z;rcases m6 z with h|⟨p,j,m,U⟩;exact kj h;exact tM C.als_ok m (by simp[U]) p
 have d9:n0+i<G.next:=by have:=C.cs_next G (GM hG);omega
 unfold Oper.wp;rw[p w];refine hK e (upd σ (n0+i) (w.heap.size,0,0)) _ _ ⟨?_,?_,?_,?_,?_,io sf st ho S hv (ch b0) (U _ (n0+i) w.heap.size 0 bF) hd,?_,st.glob.sub (ch b0),G,hG,?_,?_⟩;intro M o' a2 s ed b3 V;rw[bn]at s ⊢;right;rcases s with rfl|s;rw[ho,osI]at a2;subst a2;exact hr ed b3 V;exact st.cl M o' a2 s ed b3 V;intro M s;rw[bn]at s;rcases s with rfl|s;exact hi;exact st.lt M s;intro j M hj;have a0:M≠i:=by rintro rfl;exact b1 (GM hj)
 rw[bn,<-st.ef j M hj];constructor;rintro(h|h);exact absurd h a0;exact h;exact .inr;cases h:o.dst with
 |none=>exact st.sz
 |some d=>simp[Act.put,st.sz]
 cases h:o.dst with
 |none=>exact st.df
 |some d=>simp[Act.put,st.df]
 intro x z s;simp only[H4,Io]at s;have:=C.als_ok.id x z;refine⟨?_,(st.free x z s.2).2⟩;unfold upd;simp only;rw[D' (by omega)];exact(st.free x z s.2).1;exact RelG.alloc g e0 b0 c0 d9 (GK _) (m _ (ch b0)) rfl;exact ExtG.trans0 a4 (ExtG.allocAt g e0 (by have:=C.cs_next G (GM hG);omega) (Ir _ _) (ob:=f1) rfl rfl rfl rfl);rw[R _ hw,Gw rfl];left;obtain⟨G1,e5,g,a4⟩:=st.rel;have f6:e'=e:=by
  have p:¬ e'<e:=λh=>by have:=(st.ef e' i he).2 h;rw[S]at this;cases this
  have m:¬ e<e':=λh=>by
   have a1:e<es.length:=by have:=(GE.1 he).1;omega
   have d1:es[e]? =some es[e]:=by simp[a1]
   obtain⟨o1,f5,d4⟩:=C.es_eff e _ d1;obtain⟨o2,f4,d3⟩:=C.es_eff e' _ he;have:=sf.effs _ _ _ _ f5 f4 d4 d3 (C.es_inc e e' _ _ d1 he h);have:=(st.ef e _ d1).1 (c1 _ this);omega
  omega
 subst f6;rw[hG,osI]at e5;subst e5;obtain⟨p1,p2,p3⟩:=nV sf C st ho hr hH;have RH:Rel E.P σ H w:=RelG.fewer g p2 (λB hB=>g.fresh B (by rw[p1]at hB;exact hB)) (λB h=>by rw[p1];exact(g.nl B h).1);refine sr ok hc RH st.glob c3 e1 _ _ λv' w' σ' q1 q2 J=>?_;have q:σ.sub σ':=Ext.sub RH J;have D:∀ B x,gf als G' (λj=>decide (j=i)||L j) B=some x->vis G' B=some x∨(gf als G L B=some x/\vis H B=none/\∃ y∈als,y.2.1=B):=by
  intro B x z;rcases m6 z with h|⟨p,j,m,U⟩;exact .inl h;right;have c5:vis H B=none:=by
   cases a7:vis H B with
   |none=>rfl
   |some y=>obtain⟨y',c4⟩:=d0 _ m y a7;simp only at c4;rw[p]at c4;cases c4
  have f3:vis G B=none:=by
   cases a7:vis G B with
   |none=>rfl
   |some y=>rw[p3 B y a7]at c5;cases c5
  rw[bn]at U;have f8:L j=true:=by rcases U with rfl|U;exact absurd rfl (b4 _ m);exact U
  exact⟨tM C.als_ok m f8 f3,c5,_,m,rfl⟩
 have a5:∀ B x,H.t.get B=some x->x.own=true->gf als G L B=some x:=λB x p m=>p2 B x p (AObj.here_of_own m);have a3:∀ B x,H.t.get B=some x->x.here=true->vis H B=some x:=λB x p m=>vis_some.2 ⟨p,m⟩;have f0:∀ B x,gf als G L B=some x->vis H B=none->(∃y∈als,y.2.1=B)->x.own=true:=by intro B x z hv _;rcases m6 z with h|⟨_,j,m,_⟩;rw[p3 B x h]at hv;cases hv;exact C.als_ok.own _ m
 have d9:n0+ops.size<=G.next:=C.cs_next G (GM hG)
 refine hK (e'+1) σ' _ w' ⟨?_,?_,?_,?_,?_,io sf st ho S hv q q1 hd,?_,st.glob.sub q,G',f9,?_,?_⟩;intro M o' a2 s ed b3 V;rw[bn]at s ⊢;right;rcases s with rfl|s;rw[ho,osI]at a2;subst a2;exact hr ed b3 V;exact st.cl M o' a2 s ed b3 V;intro M s;rw[bn]at s;rcases s with rfl|s;exact hi;exact st.lt M s;intro j M hj;rw[bn];by_cases ej:j=e';subst ej;rw[he,osI]at hj;exact⟨λ_=>IC _,λ_=>.inl hj.symm⟩;have a0:M≠i:=by rintro rfl;rcases Nat.lt_or_gt_of_ne ej with h|h;have:=C.es_inc j e' _ _ hj he h;omega;have:=C.es_inc e' j _ _ he hj h;omega
 rw[st.ef j M hj];constructor;rintro(h|h);exact absurd h a0;omega;intro h;right;omega;cases h:o.dst with
 |none=>exact st.sz
 |some d=>simp[Act.put,st.sz]
 cases h:o.dst with
 |none=>exact st.df
 |some d=>simp[Act.put,st.df]
 intro x z s;simp only[H4]at s;have p:=C.als_ok.id x z;have m:=C.als_ok.lt x z;refine⟨by rw[J.sig x.2.1 (by rw[p1];omega)];exact(st.free x z s.2).1,λh=>(st.free x z s.2).2 ((J.snl x.2.1 (by rw[p1];omega)).1 h)⟩
 · have I:∀ B,σ.nl B->σ' B=none:=λB h=>(q2.nl B ((J.snl B (by rw[p1];exact(g.nl B h).1)).2 h)).2;refine⟨?_,?_,q2.lt,q2.fresh,q2.ro,λB x y z k Y=>?_,q2.nl⟩;rotate_left 2;rcases D B x z with h|⟨p,m,U⟩;exact q2.sep B x y (vis_some.1 h).1 k Y
   · rcases g.obj0 B x p (AObj.here_of_own k)with⟨b,d,c,u,_⟩|⟨_,hn⟩;rotate_left;rw[I B hn]at Y;cases Y;have:=q.f _ _ u;rw[this,osI]at Y;subst Y;cases c6:σ'.ro b with
     |none=>rfl
     |some oo=>
     rcases J.rog b oo c6 with k2|k2|⟨O,X,x0,g1,A,g3,g4⟩;have:=g.sep B x _ p k u;rw[this]at k2;cases k2;have:=g.lt B _ u;simp only at this;omega;have Z:O≠B:=by rintro rfl;rw[a3 _ _ g1 (AObj.here_of_own A)]at m;cases m
     exact absurd g4 (g.inj O B X x x0 _ (a5 O X g1 A) p A (AObj.here_of_own k) Z g3 u)
   intro B x z hh;rcases D B x z with h|⟨p,m,U⟩;exact q2.obj0 B x (vis_some.1 h).1 hh
   · rcases g.obj0 B x p hh with⟨b,d,c,u,k2⟩|⟨u,hn⟩;rotate_left;exact .inr ⟨u,(J.snl B (by rw[p1];exact(g.nl B hn).1)).2 hn⟩;refine .inl ⟨b,d,c,q.f _ _ u,?_⟩;rw[J.frame b (g.lt B _ u) λB1 o1 x1 g1 A g3 ge=>?_];exact k2.mono q;have a0:B1≠B:=by rintro rfl;rw[a3 _ _ g1 (AObj.here_of_own A)]at m;cases m
     exact g.inj B1 B o1 x x1 (b,d,c) (a5 B1 o1 g1 A) p A hh a0 g3 u ge
   intro B1 B2 o1 o2 x1 x2 f7 e3 k l a0 a6 N;rcases D B1 o1 f7 with p|⟨p,e9,g8⟩;rcases D B2 o2 e3 with m|⟨m,d6,g5⟩;exact q2.inj B1 B2 o1 o2 x1 x2 (vis_some.1 p).1 (vis_some.1 m).1 k l a0 a6 N
   · rcases g.obj0 B2 o2 m l with⟨b,d,c,u,_⟩|⟨_,hn⟩;rotate_left;rw[I B2 hn]at N;cases N;have:=q.f _ _ u;rw[this,osI]at N;subst N;have a1:=g.lt B2 _ u;rcases J.orig B1 o1 x1 (vis_some.1 p).1 k a6 with hs|⟨O,X,x0,g1,A,g3,g4⟩;simp only at a1 ⊢;omega;rw[<-g4];have Z:O≠B2:=by rintro rfl;rw[a3 _ _ g1 (AObj.here_of_own A)]at d6;cases d6
     exact g.inj O B2 X o2 x0 _ (a5 O X g1 A) m A l Z g3 u
   · rcases g.obj0 B1 o1 p (AObj.here_of_own k)with⟨b,d,c,u,_⟩|⟨_,hn⟩;rotate_left;rw[I B1 hn]at a6;cases a6;have:=q.f _ _ u;rw[this,osI]at a6;subst a6;have a1:=g.lt B1 _ u;rcases D B2 o2 e3 with m|⟨m,d6,g5⟩;rcases J.orig2 B2 o2 x2 (vis_some.1 m).1 l N with hs|⟨O,X,x0,g1,A,g3,g4⟩;simp only at a1 ⊢;omega;rw[<-g4];have Z:B1≠O:=by rintro rfl;rw[a3 _ _ g1 A]at e9;cases e9
     exact g.inj B1 O o1 X _ x0 p (p2 O X g1 A) k A Z u g3;· rcases g.obj0 B2 o2 m l with⟨b2,d2,c2,k2,_⟩|⟨_,hn⟩;rotate_left;rw[I B2 hn]at N;cases N;have:=q.f _ _ k2;rw[this,osI]at N;subst N;exact g.inj B1 B2 o1 o2 _ _ p m k l a0 u k2
 · have I:∀ B,σ.nl B->σ' B=none:=λB h=>(q2.nl B ((J.snl B (by rw[p1];exact(g.nl B h).1)).2 h)).2;refine ExtG.trans a4 ⟨?_,?_,J.size,?_,?_,?_,J.os,J.tape,J.output,J.sro,λb oo V=>?_,λB hB=>J.snl B (by rw[p1];exact hB)⟩;rotate_left 5;rcases J.rog b oo V with h|h|⟨O,X,x0,g1,A,g3,g4⟩;exact .inl h;exact .inr (.inl h);exact .inr (.inr ⟨O,X,x0,a5 O X g1 A,A,g3,g4⟩);intro B hB;exact J.sig B (by rw[p1];exact hB);have:=J.next;rw[p1]at this;exact this
   intro b V hn;exact J.frame b V λB ob x p m U=>hn B ob x (a5 B ob p m) m U;intro B x y z k Y;rcases D B x z with h|⟨p,m,U⟩;rcases J.orig B x y (vis_some.1 h).1 k Y with hs|⟨O,X,x0,g1,A,g3,g4⟩;exact .inl hs;exact .inr ⟨O,X,x0,a5 O X g1 A,A,g3,g4⟩;· rcases g.obj0 B x p (AObj.here_of_own k)with⟨b,d,c,u,_⟩|⟨_,hn⟩;rotate_left;rw[I B hn]at Y;cases Y;have:=q.f _ _ u;rw[this,osI]at Y;subst Y;exact .inr ⟨B,x,_,p,k,u,rfl⟩
   intro B x y z l Y;rcases D B x z with h|⟨p,m,U⟩;rcases J.orig2 B x y (vis_some.1 h).1 l Y with hs|⟨O,X,x0,g1,A,g3,g4⟩;exact .inl hs;exact .inr ⟨O,X,x0,p2 O X g1 A,A,g3,g4⟩;· rcases g.obj0 B x p l with⟨b,d,c,u,_⟩|⟨_,hn⟩;rotate_left;rw[I B hn]at Y;cases Y;have:=q.f _ _ u;rw[this,osI]at Y;subst Y;exact .inr ⟨B,x,_,p,l,u,rfl⟩
end
abbrev _root_.Go.Ik:=@List.mem_filter
abbrev _root_.Go.Hz:=@List.mem_range
abbrev _root_.Go.Ix:=@List.replicate_succ
def nf:Li->Nat
 | []=>0
 |true::l=>nf l
 |false::l=>nf l+1
theorem AL:∀ {l:Li}{i:Nat},l[i]? =some false->nf (l.set i true)+1=nf l
 | [],i,h=>by simp at h
 |b::l,0,h=>by simp at h;subst h;simp[nf]
 |b::l,i+1,h=>by simp at h;have:=AL h;cases b<;>simp[nf]<;>omega
theorem vr:∀ {l:Li},nf l=0->∀ {i:Nat}{b},l[i]? =some b->b=true
 | [],_,i,b,h=>by simp at h
 |true::l,hz,0,b,h=>by simp at h;exact h
 |true::l,hz,i+1,b,h=>by simp at h;exact vr (by simpa[nf]using hz) h
 |false::l,hz,_,_,_=>by simp[nf]at hz
section
variable {call:bV}{E:Env}{ops:Array Oper}{ms:Lg}{n n0:Nat}{F0:T Value}{fs:List (T Value)}{vs:Lh}{cs:List AH}{es:Lg}{als:List Al}
 {σ0:Sig}{g0:Nat->Option AObj}{w0:World}
theorem j5{a:Array Bool}(p:a.size=ops.size){i:Nat}:i∈Region.ready .any ops a↔∃ o,ops[i]? =some o/\a.getD i false=false/\∀ e∈o.after.toList,Region.binds .any e=true->a.getD e.on false=true:=by
 unfold Region.ready;rw[Ik,Hz];constructor;rintro⟨f,h⟩;have b:ops[i]? =some ops[i]:=by simp[f]
 simp only[b,Hx,Ip,f',IH]at h;refine⟨_,b,?_,λe l g=>?_⟩;have:=h.1;rw[Hf]at this ⊢;have c:a[i]? =some (a[i]'(by omega)):=by simp<;>omega
 rw[c]at this ⊢;exact this;have:=h.2;rw[Array.all_eq_true]at this;obtain⟨k,d,rfl⟩:=List.getElem_of_mem l;have:=this k (by simpa using d);simp only[HR,IH]at this;rcases this with h|h;have m:(ops[i]).after[k]'(by simpa using d)=(ops[i]).after.toList[k]:=by simp
 rw[m,g]at h;cases h;simpa using h;rintro⟨o,b,h1,h2⟩;have f:i<ops.size:=by rcases Hg i ops.size with h|h;exact h;rw[He h]at b;cases b
 refine⟨f,?_⟩;simp only[b,Hx,Ip,f',IH];refine⟨?_,?_⟩;rw[Hf]at h1 ⊢;have c:a[i]? =some (a[i]'(by omega)):=by simp<;>omega
 rw[c]at h1 ⊢;exact h1;rw[Array.all_eq_true];intro k d;have j:o.after[k]∈o.after.toList:=by simp
 cases g:Region.binds .any o.after[k];simp;simp[h2 _ j g]
theorem ue(c:SF E ops ms){a:Array Bool}(j:a.size=ops.size)(h:Region.ready .any ops a=[]):∀ i,i<ops.size->a.getD i false=true:=by
 intro i;induction i using Nat.strongRecOn with
 |_ i g=>
 intro k;cases l:a.getD i false with
 |true=>rfl
 |false=>
 have b:ops[i]? =some ops[i]:=by simp[k]
 have:i∈Region.ready .any ops a:=(j5 j).2 ⟨_,b,l,λe d f=>g e.on (c.back i _ b e d f) (by have:=c.back i _ b e d f;omega)⟩;rw[h]at this;simp at this
theorem BA(z:E.Ok)(A:fp E call)(t:SF E ops ms)(y:TR call E ops ms n n0 F0 fs vs cs es als){Q:Exit->Act->World->Prop}
 (v:∀ L e σ a w,(∀i,i<ops.size->L i=true)->St E ops n n0 F0 vs cs es als σ0 g0 w0 L e σ a w->Q .normal a w):
 ∀ (d:Nat) (c:Array Bool) (e:Nat) (σ:Sig) (a:Act) (w:World),c.size=ops.size->nf c.toList<=d->
   St E ops n n0 F0 vs cs es als σ0 g0 w0 (λj=>c.getD j false) e σ a w->wpAny E.P .any ops Q d c a w
 | 0,c,e,σ,a,w,hs,hn,st=>by
  have f:∀ i,i<ops.size->c.getD i false=true:=by
   intro i p;have m:c[i]? =some (c[i]'(by omega)):=by simp<;>omega
   have:=vr (by omega:nf c.toList=0) (i:=i) (b:=c[i]'(by omega)) (by simp<;>omega);rw[Hf,m,this];rfl
  refine⟨?_,v _ e σ a w f st⟩;cases C:Region.ready .any ops c with
  |nil=>rfl
  |cons i r=>
  have:i∈Region.ready .any ops c:=by rw[C];simp
  obtain⟨o,k,g,_⟩:=(j5 hs).1 this;have p:i<ops.size:=by rcases Hg i ops.size with h|h;exact h;rw[He h]at k;cases k
  rw[f i p]at g;cases g
 | d+1,c,e,σ,a,w,hs,hn,st=>by
  refine⟨λl=>v _ e σ a w (ue t hs l) st,λi p=>?_⟩;obtain⟨o,k,g,F⟩:=(j5 hs).1 p;have u:i<ops.size:=by rcases Hg i ops.size with h|h;exact h;rw[He h]at k;cases k
  refine s7 z A t y st k g F λx q G B s=>?_;refine BA z A t y v d (c.setIfInBounds i true) x q G B (by simpa using hs) ?_ ?_;have m:c.toList[i]? =some false:=by
   rw[Iz];rw[Hf]at g;have m:c[i]? =some (c[i]'(by omega)):=by simp<;>omega
   rw[m]at g ⊢;simpa using g
  have:=AL m;rw[Jo];omega;have D:(λj=>(c.setIfInBounds i true).getD j false)=(λj=>decide (j=i)||c.getD j false):=by funext j;rw[Hf,H7,Hf];by_cases e:i=j;subst e;simp[hs,u];rw[D' e];simp;intro x;exact absurd x.symm e
  rw[D];exact s
theorem uQ(X:E.Ok)(D:fp E call)(z:n6 E ops=true){A A':AH}{V:T Value}{U:AH}(l:TR call E ops (eZ ops.toList []) n A.next F0 fs vs cs es als)
 (M:cs[0]? =some ⟨A.t,A.next+ops.size⟩) (K:cs[es.length]? =some U) (N:fs[ops.size]? =some V) {mm:Nat}(S:b6 mm als U=some A')
 {σ:Sig}{a:Act}{w:World}(R:Rel E.P σ A w) (hg:Glob E σ) (O:FR σ F0 n a) {id:Nat}{Q:Exit->Act->World->Prop}
 (hQ:∀ H w' σ',FR σ' V n H->Rel E.P σ' A' w'->Ext σ A w σ' A' w'->Q .normal H w'):(Code.region id ops true).wp E.P Q a w:=by
 refine wp_region_any X.mixed ?_;have sf:=sf_of z;have hL0:∀ j,(Array.replicate ops.size false).getD j false=false:=by intro j;rw[Hf,Array.getElem?_replicate];split<;>rfl
 have m:∀ (L:Nat->Bool),(∀j,L j=false)->∀ B,gf als ⟨A.t,A.next+ops.size⟩ L B=vis A B:=by
  intro L r B;unfold gf;have:vis ⟨A.t,A.next+ops.size⟩ B=vis A B:=rfl;rw[this];cases vis A B with
  |some x=>rfl
  |none=>
  have:als.find? (λx=>Nat.beq x.2.1 B&&L x.1)=none:=by rw[Jf];intro x _;simp[r]
  simp[this]
 refine BA (σ0:=σ) (g0:=A.t.get) (w0:=w) X D sf l ?_ ops.size _ 0 σ a _ (by simp) ?_ ?_;intro L e σ' H w' f s;have J:e=es.length:=by
  have g:e<=es.length:=by obtain⟨G,F,_⟩:=s.rel;have:=(GE.1 F).1;have:=l.cs_len;omega
  rcases Hg e es.length with h|h;have C:es[e]? =some es[e]:=by simp[h]
  obtain⟨o,Y,_⟩:=l.es_eff e _ C;have I:es[e]<ops.size:=by rcases Hg es[e] ops.size with h|h;exact h;rw[He h]at Y;cases Y
  have:=(s.ef e _ C).1 (f _ I);omega;omega
 subst J;obtain⟨G,F,d,b⟩:=s.rel;rw[K,osI]at F;subst F;obtain⟨s1,s2,s3,s4⟩:=fH S (λx u=>AObj.here_of_own (l.als_ok.own x u));have q:∀ B y,A'.t.get B=some y->y.here=true->gf als U L B=some y:=by intro B y v Z;rcases s2 B y (vis_some.2 ⟨v,Z⟩)with h|⟨g,j,c,p⟩;exact kj h;exact tM l.als_ok c (f j (l.als_ok.lt _ c)) g
 refine hQ H w' σ' ⟨s.sz,λt=>?_,s.df⟩ (RelG.fewer d q (λB v=>d.fresh B (by rw[s1]at v;exact v)) (λB h=>by rw[s1];exact(d.nl B h).1)) ⟨b.sig,by rw[s1];exact b.next,b.size,b.frame,?_,?_,b.os,b.tape,b.output,b.sro,b.rog,b.snl⟩;rw[jP l t ops.size V (GK _) N];have:fvl ops vs (λ_=>true) F0 t ops.size=fvl ops vs L F0 t ops.size:=gT _ λj C _=>(f j C).symm;rw[this];exact s.fr t;intro B o x g c p;exact b.orig B o x (q B o g (AObj.here_of_own c)) c p;intro B o x g c p;exact b.orig2 B o x (q B o g c) c p;rw[Array.toList_replicate];have:∀ k,nf (List.replicate k false)=k:=by
  intro k;induction k with
  |zero=>rfl
  |succ k ih=>simp[Ix,nf,ih]
 rw[this];exact GK _;refine⟨?_,?_,?_,O.size,O.defers,?_,?_,hg,_,M,?_,?_⟩;intro i o _ r;rw[hL0]at r;cases r;intro i r;rw[hL0]at r;cases r;intro j i _;rw[hL0];simp;intro t;have:fvl ops vs (λj=>(Array.replicate ops.size false).getD j false) F0 t ops.size=slot F0 t:=by rw[jp (i:=0) ops.size (IM _) λj _ _ D=>by rw[hL0]at D;cases D.1];rfl
 rw[this];exact O.val t;intro x u _;have:=l.als_ok.id x u;exact⟨R.fresh _ (by omega),λh=>by have:=(R.nl _ h).1;omega⟩;refine RelG.fewer (RelG.drew R (w':={w with drawn:=w.drawn+1}) rfl) (λB o h Z=>?_) (λB v=>R.fresh B (by simp only at v;omega)) (λB h=>HN (R.nl B h).1 (Ir _ _));rw[m _ hL0]at h;exact(vis_some.1 h).1;have u:∀ B o,gf als ⟨A.t,A.next+ops.size⟩ (λj=>(Array.replicate ops.size false).getD j false) B=some o->A.t.get B=some o:=λB o h=>by rw[m _ hL0]at h;exact(vis_some.1 h).1
 exact⟨λ_ _=>rfl,Ir _ _,GK _,λ_ _ _=>rfl,λB o x g c p=>.inr ⟨B,o,x,u B o g,c,p,rfl⟩,λB o x g c p=>.inr ⟨B,o,x,u B o g,c,p,rfl⟩,rfl,rfl,rfl,λ_ _ h=>h,λ_ _ h=>.inl h,λ_ _=>Jb⟩
end
variable {E:Env}
def veqs(f:Value->Value->Bool):Lh->Lh->Bool
 | [],[]=>true
 |a::x,b::y=>bif f a b then veqs f x y else false
 |_,_=>false
theorem jz{f:Value->Value->Bool}(d:∀ a b,f a b=true->a=b):∀ {x y:Lh},veqs f x y=true->x=y
 | [],[],_=>rfl
 | [],_::_,h=>by simp[veqs]at h
 |_::_,[],h=>by simp[veqs]at h
 |a::x,b::y,h=>by simp only[veqs]at h;cases c:f a b;rw[c]at h;simp at h;rw[c]at h;rw[d a b c,jz d h]
def sJ(a b:Addr):Bool:=Nat.beq a.block b.block&&(Nat.beq a.off b.off&&(a.spot.isNone&&b.spot.isNone))
theorem pf{a b:Addr}(h:sJ a b=true):a=b:=by obtain⟨l,k,i⟩:=a;obtain⟨j,b2,g⟩:=b;simp only[sJ,f']at h;obtain⟨d,c,f,e⟩:=h;have d:=Gy d;have c:=Gy c;subst d;subst c;cases i<;>simp at f;cases g<;>simp at e;rfl
def veq:Nat->Value->Value->Bool
 |0,_,_=>false
 | n+1,a,b=>
   match a,b with
   | .bool x,.bool y=>(match x,y with|true,true=>true|false,false=>true|_,_=>false)
   | .int k x,.int k' y=>decide (k=k')&&decide (x=y)
   | .string s,.string t=>eqL s.data.toList t.data.toList
   | .pointer none,.pointer none=>true
   | .pointer (some a),.pointer (some b)=>sJ a b
   | .slice none n k,.slice none n' k'=>Nat.beq n n'&&Nat.beq k k'
   | .slice (some a) n k,.slice (some b) n' k'=>sJ a b&&(Nat.beq n n'&&Nat.beq k k')
   | .map none,.map none=>true
   | .map (some r),.map (some r')=>Nat.beq r r'
   | .func f x y,.func g x' y'=>decide (f=g)&&(veqs (veq n) x.toList x'.toList&&veqs (veq n) y.toList y'.toList)
   | .nilFunc,.nilFunc=>true
   | .iface t v,.iface u v'=>Nat.beq t u&&veq n v v'
   | .nilIface,.nilIface=>true
   | .agg x,.agg y=>veqs (veq n) x.toList y.toList
   | .tuple x,.tuple y=>veqs (veq n) x.toList y.toList
   |_,_=>false
theorem jA:∀ (n:Nat) (a b:Value),veq n a b=true->a=b
 |0,_,_,h=>by simp[veq]at h
 |n+1,a,b,h=>by unfold veq at h;split at h;rename_i x y;cases x<;>cases y<;>simp at h<;>rfl;simp only[f',GQ]at h;rw[h.1,h.2];rw[dZ]at h;rw[If h];rfl;rw[pf h];simp only[f']at h;rw[Gy h.1,Gy h.2];simp only[f']at h;rw[pf h.1,Gy h.2.1,Gy h.2.2];rfl;rw[Gy h];simp only[f',GQ]at h;rw[h.1,Hv.1 (jz (jA n) h.2.1),Hv.1 (jz (jA n) h.2.2)];rfl;simp only[f']at h;rw[Gy h.1,jA n _ _ h.2];rfl;rw[Hv.1 (jz (jA n) h)];rw[Hv.1 (jz (jA n) h)];cases h
def hdep:Op->Bool
 | .load .. | .lookup .. | .convert .. =>true
 | .call _=>true
 |_=>false
theorem jV{H H':AH}{ρ:Operand->Lj}{ty:TypeId}{a:Op}(h:hdep a=false):quiet E H ρ ty a=quiet E H' ρ ty a:=by cases a<;>first|rfl|(simp[hdep]at h)
theorem mb{d :Type}:∀ (f:Nat) (t:T d) (k:Nat) (x: d),k+1<2 ^ f->∃ a,T.set f t k x=some a
 |0,t,k,x,h=>by simp at h
 | f+1,t,k,x,h=>by
  have j:2 ^ (f+1)=2*2 ^ f:=by rw[Nat.pow_succ];omega
  have b:∀ l v r,∃a,T.setAt (T.set f) l v r k x=some a:=by intro l v r;rw[T.setAt_eq];by_cases i:k=0;exact⟨_,by rw[Gw i]⟩;rw[D' i];by_cases e:k%2=1;rw[Gw e];obtain⟨a,c⟩:=mb f l (k/2) x (by omega);exact⟨.node a v r,by simp[c]⟩;rw[D' e];obtain⟨a,c⟩:=mb f r (k/2-1) x (by omega);exact⟨.node l v a,by simp[c]⟩
  cases t with
  |leaf=>exact b .leaf none .leaf
  |node l v r=>exact b l v r
  |fn g=>exact⟨_,T.set_fn f g k x⟩
theorem gx{m:Nat}:∀ (a:List Al) (G:AH),(∀x∈a,x.2.1+1<2 ^ FU)->∃ H,b6 m a G=some H
 | [],G,_=>⟨G,rfl⟩
 | (i,id,ob)::r,G,h=>by
  obtain⟨H,e⟩:=gx r G (λx c=>h x (by simp[c]));unfold b6;rw[e];cases f:m.testBit i;exact⟨H,by simp⟩;cases b:vis H id with
  |some _=>exact⟨H,by simp[b]⟩
  |none=>obtain⟨t,d⟩:=mb FU H.t id ob (h (i,id,ob) (by simp));exact⟨⟨t,H.next⟩,by simp[b,d]⟩
structure Qu where
 i:Nat
 m:Nat
 o:Oper
 F:T Value
 v:Value
structure RS where
 F:T Value
 G:AH
 past:List (Nat×AH)
 als:List Al
 qs:List Qu
def veqE(E:Env)(a b:Value):Bool:=match E.sym with|false=>veq 6 a b|true=> @decide (a=b) (Classical.propDecidable _)
theorem BW{a b:Value}(h:veqE E a b=true):a=b:=by unfold veqE at h;split at h;exact jA 6 _ _ h;simpa using h
theorem uk(b:E.sym=true)(a:Value):veqE E a a=true:=by unfold veqE;rw[b];simp
def fQ(E:Env)(als:List Al)(G:AH)(q:Qu):Bool:=
 match b6 q.m als G with
 |some H=>(match quiet E H (rho E q.F (bG q.o.op)) q.o.type q.o.op with|some v=>veqE E v q.v|none=>false)
 |none=>false
def iU(E:Env)(als:List Al)(q:Qu):List (Nat×AH)->Bool
 | []=>true
 |(ie,Gb)::r=>bif q.m.testBit ie then true else(bif fQ E als Gb q then iU E als q r else false)
def tG(H G:AH)(x:Al):Bool:=match vis H x.2.1 with|none=>true|some _=>(vis G x.2.1).isSome
def regA (call :bV)(E:Env)(ops:List Oper)(ms:Lg)(n n0 sz:Nat):List Oper->Nat->RS->Option RS
 | [],_,S=>some S
 | o :: rest, i,S=>
   match cw ops S.F o with
   |none=>none
   |some false=>(match put n S.F o.dst undef with|some F'=>regA call E ops ms n n0 sz rest (i+1) {S with F:=F'} |none=>none)
   | some true =>
     match gN E o.op with
     | true =>(match b6 ((nth ms i).getD 0) S.als S.G with
       | some H=>(match c8 call E H (rho E S.F (bG o.op)) o.op with
         | some (v,G')=>
           bif S.als.all (tG H G')&&(S.qs.all (λq=>((nth ms i).getD 0).testBit q.i||fQ E S.als G' q)&&Nat.ble (n0+sz) G'.next)then
            (match put n S.F o.dst v with|some F'=>regA call E ops ms n n0 sz rest (i+1) ⟨F',G',(i,S.G)::S.past,S.als,S.qs⟩|none=>none)
           else none
         |none=>none)
       |none=>none)
     | false =>(match bX E (rho E S.F (bG o.op)) o.op with
       | some (ob,fv)=>bif (vis S.G (n0+i)).isNone&&S.past.all (λp=>(vis p.2 (n0+i)).isNone)then
        (match put n S.F o.dst (fv (n0+i))with|some F'=>regA call E ops ms n n0 sz rest (i+1) {S with F:=F',als:=(i,n0+i,ob)::S.als} |none=>none)else none
       | none =>(match b6 ((nth ms i).getD 0) S.als S.G with
         | some H=>(match quiet E H (rho E S.F (bG o.op)) o.type o.op with
           | some v=>
             (match hdep o.op with
             | true=>bif iU E S.als ⟨i,(nth ms i).getD 0,o,S.F,v⟩ S.past then
              (match put n S.F o.dst v with|some F'=>regA call E ops ms n n0 sz rest (i+1) {S with F:=F',qs:=⟨i,(nth ms i).getD 0,o,S.F,v⟩::S.qs} |none=>none)else none
             |false=>(match put n S.F o.dst v with|some F'=>regA call E ops ms n n0 sz rest (i+1) {S with F:=F'} |none=>none))
           |none=>none)
         |none=>none))
def RS.es(S:RS):Lg:=(S.past.map (·.1)).reverse
def RS.cs(S:RS):List AH:=(S.G::S.past.map (·.2)).reverse
def RowP(call:bV)(E:Env)(ops:Array Oper)(ms:Lg)(n0:Nat)(past:List (Nat×AH))(es:Lg)(cs:List AH)(als:List Al)(qs:List Qu)(i:Nat)(o:Oper)(F:T Value)(v:Value):Prop:=
 (cw ops.toList F o=some false/\v=undef/\i ∉ es/\(∀x∈als,x.1≠i))∨
 (cw ops.toList F o=some true/\i ∉ es/\(∀x∈als,x.1≠i)/\(hdep o.op=true->⟨i,(nth ms i).getD 0,o,F,v⟩∈qs)/\
  ∀ (e:Nat) G,cs[e]? =some G->(∀(j:Nat) i',es[j]? =some i'->bit ms i i'=true->j<e)->(∀(j:Nat) i',es[j]? =some i'->j<e->bit ms i' i=false)->
    ∃H,b6 ((nth ms i).getD 0) als G=some H/\quiet E H (rho E F (bG o.op)) o.type o.op=some v)∨
 (cw ops.toList F o=some true/\i ∉ es/\∃ ob fv,bX E (rho E F (bG o.op)) o.op=some (ob,fv)/\(i,n0+i,ob)∈als/\v=fv (n0+i))∨
 (cw ops.toList F o=some true/\(∀x∈als,x.1≠i)/\∃ (e:Nat),∃G G' H,es[e]? =some i/\cs[e]? =some G/\cs[e+1]? =some G'/\b6 ((nth ms i).getD 0) als G=some H/\
  c8 call E H (rho E F (bG o.op)) o.op=some (v,G')/\∀ x∈als,∀ob,vis H x.2.1=some ob->∃ ob',vis G' x.2.1=some ob')
structure TRp (call:bV) (E:Env) (ops:Array Oper) (ms:Lg) (n n0:Nat) (F0:T Value) (A0:AH) (k:Nat) (S:RS) (fs:List (T Value)) (vs:Lh):Prop where
 fs0:fs[0]? =some F0
 fsk:fs[k]? =some S.F
 fsl:fs.length=k+1
 vsl:vs.length=k
 row:∀ i o,i<k->ops[i]? =some o->∃ F F' v,fs[i]? =some F/\fs[i+1]? =some F'/\vs[i]? =some v/\put n F o.dst v=some F'/\RowP call E ops ms n0 S.past S.es S.cs S.als S.qs i o F v
 es_lt:∀ x∈S.past,x.1<k
 es_eff:∀ x∈S.past,∃o,ops[x.1]? =some o/\gN E o.op=true
 es_inc:∀ (j j':Nat) i i',S.es[j]? =some i->S.es[j']? =some i'->j<j'->i<i'
 als_lt:∀ x∈S.als,x.1<k
 als_ok:AlsOk n0 ops.size S.als
 c0:S.cs[0]? =some A0
 cnx:∀ G∈(S.G::S.past.map (·.2)),n0+ops.size<=G.next
 qsl:∀ q∈S.qs,q.i<k
abbrev _root_.Go.JG:=@List.reverse_cons
abbrev _root_.Go.Jw:=@Option.isSome_iff_exists
abbrev _root_.Go.GS:=@List.mem_cons_of_mem
theorem xQ{ρ:Operand->Lj}{a:Op}{ob:AObj}{fv:Nat->Value}(h:bX E ρ a=some (ob,fv)):ob.own=true:=by
 unfold bX at h;repeat' split at h
 all_goals first
  |(simp only[osI,GC]at h;obtain⟨rfl,_⟩:=h;rfl)
  |(cases h;done)
  |skip
 all_goals
  simp only[cond_eq_ite]at h;split at h
  first
   |(simp only[osI,GC]at h;obtain⟨rfl,_⟩:=h;rfl)
   | (split at h
      · simp only[osI,GC]at h;obtain⟨rfl,_⟩:=h;rfl
      · cases h)
  cases h
section
variable {call:bV}{E:Env}{ops:Array Oper}{ms:Lg}{n n0:Nat}{F0:T Value}{A0:AH}{k:Nat}{S S':RS}{fs:List (T Value)}{vs:Lh}{o:Oper}{F':T Value}{v:Value}
theorem vz{S:RS}{i:Nat}:i∈S.es↔∃ x∈S.past,x.1=i:=by unfold RS.es;simp
theorem TRp.step(a:TRp call E ops ms n n0 F0 A0 k S fs vs)(z:ops[k]? =some o)(c:put n S.F o.dst v=some F')(A:S'.F=F')
 (d:∀ i o F v,i<k->ops[i]? =some o->RowP call E ops ms n0 S.past S.es S.cs S.als S.qs i o F v->RowP call E ops ms n0 S'.past S'.es S'.cs S'.als S'.qs i o F v)
 (f:RowP call E ops ms n0 S'.past S'.es S'.cs S'.als S'.qs k o S.F v)
 (L:∀ x∈S'.past,x.1<k+1) (K:∀ x∈S'.past,∃o,ops[x.1]? =some o/\gN E o.op=true) (J:∀ (j l:Nat) i i',S'.es[j]? =some i->S'.es[l]? =some i'->j<l->i<i')
 (I:∀ x∈S'.als,x.1<k+1) (H:AlsOk n0 ops.size S'.als) (D:S'.cs[0]? =some A0) (C:∀ G∈(S'.G::S'.past.map (·.2)),n0+ops.size<=G.next) (B:∀ q∈S'.qs,q.i<k+1):
 TRp call E ops ms n n0 F0 A0 (k+1) S' (fs++[F']) (vs++[v]):=by
 have g:∀ i,i<k+1->(fs++[F'])[i]? =fs[i]?:=λi m=>by rw[G0,Gw (by rw[a.fsl];exact m)]
 have p:(fs++[F'])[k+1]? =some F':=by rw[G0,D' (by rw[a.fsl];omega),a.fsl];simp
 refine⟨?_,?_,?_,?_,?_,L,K,J,I,H,D,C,B⟩;rw[g 0 (by omega)];exact a.fs0;rw[p,A];simp[a.fsl];simp[a.vsl];intro i h m b;by_cases e:i=k;subst e;rw[z,osI]at b;subst b;refine⟨S.F,F',v,?_,p,?_,c,f⟩;rw[g i (by omega)];exact a.fsk;rw[G0,D' (by rw[a.vsl];omega),a.vsl];simp;obtain⟨r,M,v1,y,w,u,t,s⟩:=a.row i h (by omega) b;refine⟨r,M,v1,?_,?_,?_,t,d i h r v1 (by omega) b s⟩;rw[g i (by omega)];exact y;rw[g (i+1) (by omega)];exact w;rw[G0,Gw (by rw[a.vsl];omega)];exact u
theorem iT{b:List Al}{q:Qu}:∀ {past:List (Nat×AH)},iU E b q past=true->∀ (e:Nat) G,(past.map (·.2)).reverse[e]? =some G->
 (∀(j:Nat) g,(past.map (·.1)).reverse[j]? =some g->q.m.testBit g=true->j<e)->fQ E b G q=true
 | [],_,e,G,h,_=>by simp at h
 | (ie,Gb)::r,hp,e,G,h,hc=>by
  simp only[iU]at hp;simp only[Hj,JG]at h hc;have c:(r.map (·.1)).reverse.length=r.length:=by simp
  have a:(r.map (·.2)).reverse.length=r.length:=by simp
  have s:((r.map (·.1)).reverse++[ie])[r.length]? =some ie:=by rw[G0,D' (by omega),c];simp
  have p:e<=r.length:=by have:=(GE.1 h).1;simp at this;omega
  have f:q.m.testBit ie=false:=by cases l:q.m.testBit ie;rfl;have:=hc r.length ie s l;omega
  rw[f]at hp;simp only[GT]at hp;cases i:fQ E b Gb q;rw[i]at hp;simp at hp;rw[i]at hp;simp only[C']at hp;rw[G0]at h;by_cases t:e<r.length;rw[Gw (by omega)]at h;exact iT hp e G h λj g d l=>hc j g (by rw[G0,Gw (by have:=(GE.1 d).1;exact this)];exact d) l
  have:e=r.length:=by omega
  subst this;rw[D' (by omega),a]at h;simp at h;subst h;exact i
theorem ot{a:List Al}{G:AH}{q:Qu}(h:fQ E a G q=true):∃ H,b6 q.m a G=some H/\quiet E H (rho E q.F (bG q.o.op)) q.o.type q.o.op=some q.v:=by unfold fQ at h;split at h;rename_i H c;split at h;rename_i u b;have:=BW h;subst this;exact⟨H,c,b⟩;cases h;cases h
theorem lP{m i id:Nat}{ob:AObj}{a:List Al}{G:AH}(h:m.testBit i=false):b6 m ((i,id,ob)::a) G=b6 m a G:=by simp only[b6,h,GT];cases b6 m a G<;>rfl
theorem iw(ok:E.Ok)(sf:SF E ops ms)(b:n0+ops.size+1<2 ^ FU):∀ (l:List Oper) (k:Nat) (S:RS) (fs:List (T Value)) (vs:Lh) (S1:RS),TRp call E ops ms n n0 F0 A0 k S fs vs->
 (∀(i:Nat),i<l.length->ops[k+i]? =l[i]?)->k+l.length=ops.size->regA call E ops.toList ms n n0 ops.size l k S=some S1->∃ fs vs,TRp call E ops ms n n0 F0 A0 ops.size S1 fs vs
 | [],k,S,fs,vs,S1,tr,_,hk,h=>by simp only[regA,osI]at h;subst h;simp at hk;subst hk;exact⟨fs,vs,tr⟩
 | o ::rest,k,S,fs,vs,S1,tr,hl,hk,h=>by
  have ho:ops[k]? =some o:=by have:=hl 0 (by simp);simpa using this
  have hr:∀ (i:Nat),i<rest.length->ops[k+1+i]? =rest[i]?:=λi hi=>by have:=hl (i+1) (by simp;omega);rw[show k+1+i=k+(i+1)by omega,this];simp
  have R:k+1+rest.length=ops.size:=by simp at hk;omega
  have d7:k<ops.size:=by omega
  have K:k ∉ S.es:=by rw[vz];rintro⟨x,a,e⟩;have:=tr.es_lt x a;omega
  have t:∀ x∈S.als,x.1≠k:=λx a=>by have:=tr.als_lt x a;omega
  have Z:∀ x∈S.als,x.2.1+1<2 ^ FU:=λx a=>by have:=tr.als_ok.id x a;have:=tr.als_ok.lt x a;omega
  have b5:S.cs.length=S.es.length+1:=by simp[RS.cs,RS.es]
  have e5:S.es.length=S.past.length:=by simp[RS.es]
  simp only[regA]at h;cases Y:cw ops.toList S.F o with
  |none=>rw[Y]at h;cases h
  |some wb=>
  cases wb;rw[Y]at h;simp only at h;split at h;rename_i F' f;refine iw ok sf b rest (k+1) _ _ _ S1 (tr.step (S':={S with F:=F'}) ho f rfl (λi o F v _ _ d=>d) (.inl ⟨Y,rfl,K,t⟩) (λx a=>by have:=tr.es_lt x a;omega) tr.es_eff tr.es_inc (λx a=>by have:=tr.als_lt x a;omega) tr.als_ok tr.c0 tr.cnx (λq O=>by have:=tr.qsl q O;omega)) hr R h;cases h;rw[Y]at h;simp only at h;cases a7:gN E o.op with
  | true=>
   rw[a7]at h;simp only at h;split at h;rename_i H hH;split at h;rename_i v G' b4;cases U:(S.als.all (tG H G')&&(S.qs.all (λq=>((nth ms k).getD 0).testBit q.i||fQ E S.als G' q)&&Nat.ble (n0+ops.size) G'.next))with
   |false=>rw[U]at h;simp at h
   | true=>
    rw[U]at h;simp only[C']at h;simp only[f',Hc,GO,HR]at U;obtain⟨b1,b2,b3⟩:=U;split at h;rename_i F' f;let S':RS:=⟨F',G',(k,S.G)::S.past,S.als,S.qs⟩;have A:S'.es=S.es++[k]:=by simp[S',RS.es]
    have B:S'.cs=S.cs++[G']:=by simp[S',RS.cs]
    have a0:S.cs[S.es.length]? =some S.G:=by simp only[RS.cs,RS.es,JG];rw[G0,D' (by simp)];simp
    have a4:∀ x∈S.als,∀X,vis H x.2.1=some X->∃ d1,vis G' x.2.1=some d1:=by intro x a X hv;have:=b1 x a;unfold tG at this;rw[hv]at this;exact Jw.1 this
    refine iw ok sf b rest (k+1) S' _ _ S1 (tr.step (S':=S') ho f rfl ?_ ?_ ?_ ?_ ?_ (λx a=>by have:=tr.als_lt x a;omega) tr.als_ok ?_ ?_ (λq O=>by have:=tr.qsl q O;omega)) hr R h;intro i o1 F1 v1 hi b0 d;have d5:i≠k:=by omega
    have hE:∀ j z,S.es[j]? =some z->S'.es[j]? =some z:=λj z s=>by rw[A,G0,Gw (GE.1 s).1];exact s
    have hC:∀ (j:Nat) J,S.cs[j]? =some J->S'.cs[j]? =some J:=λj J s=>by rw[B,G0,Gw (GE.1 s).1];exact s
    have P:i ∉ S.es->i ∉ S'.es:=by rw[A];simp;exact λh=>⟨h,d5⟩
    rcases d with⟨w,u,L,N⟩|⟨w,u,L,N,V⟩|⟨w,u,L⟩|⟨w,u,e,J,G2,H1,s1,s2,s3,s4,s5,s6⟩;exact .inl ⟨w,u,P L,N⟩;refine .inr (.inl ⟨w,P u,L,N,λe J g c1 c2=>?_⟩);rw[B,G0]at g;by_cases he:e<S.cs.length;rw[Gw he]at g;exact V e J g (λj z s I=>c1 j z (hE j z s) I) (λj z s Q=>c2 j z (hE j z s) Q);rw[D' he]at g;have e0:e=S.cs.length:=by have:=(GE.1 g).1;simp at this;omega
    subst e0;simp at g;subst g;have d9:S'.es[S.es.length]? =some k:=by rw[A,G0,D' (by omega)];simp
    have c4:bit ms k i=false:=c2 _ k d9 (by omega);cases M:hdep o1.op with
    |true=>have:=b2 _ (N M);rcases this with I|O;unfold bit at c4;simp only at I;rw[c4]at I;cases I;exact ot O
    |false=>obtain⟨H2,a8⟩:=gx (m:=(nth ms i).getD 0) S.als G' Z;obtain⟨H3,e9,d3⟩:=V S.es.length S.G a0 (λj z s _=>(GE.1 s).1) (λj z s Q=>c2 j z (hE j z s) (by omega));exact⟨H2,a8,by rw[jV (H':=H3) M];exact d3⟩
    exact .inr (.inr (.inl ⟨w,P u,L⟩));exact .inr (.inr (.inr ⟨w,u,e,J,G2,H1,hE e i s1,hC e J s2,hC (e+1) G2 s3,s4,s5,s6⟩));refine .inr (.inr (.inr ⟨Y,t,S.es.length,S.G,G',H,?_,?_,?_,hH,b4,a4⟩));rw[A,G0,D' (by omega)];simp;rw[B,G0,Gw (by omega)];exact a0;rw[B,G0,D' (by omega),b5];simp;intro x a;rcases GI.1 a with rfl|a;simp;have:=tr.es_lt x a;omega;intro x a;rcases GI.1 a with rfl|a;exact⟨o,ho,a7⟩;exact tr.es_eff x a;intro j j' i z s D Q;rw[A,G0]at s D;by_cases c:j'<S.es.length;rw[Gw c]at D;rw[Gw (by omega)]at s;exact tr.es_inc j j' i z s D Q;rw[D' c]at D;have e1:j'=S.es.length:=by have:=(GE.1 D).1;simp at this;omega
    subst e1;simp at D;subst D;rw[Gw Q]at s;have:=GM s;rw[vz]at this;obtain⟨x,a,rfl⟩:=this;exact tr.es_lt x a;rw[B,G0,Gw (by omega)];exact tr.c0;intro J g;rcases GI.1 g with rfl|g;exact b3;exact tr.cnx J g;cases h
   cases h;cases h
  |false=>
  rw[a7]at h;simp only at h;split at h;rename_i X fv d0;cases U:((vis S.G (n0+k)).isNone&&S.past.all (λp=>(vis p.2 (n0+k)).isNone));rw[U]at h;simp at h;rw[U]at h;simp only[C']at h;simp only[f',Hc,Option.isNone_iff_eq_none]at U;have d2:∀ G∈S.cs,vis G (n0+k)=none:=by intro G C;simp only[RS.cs,List.mem_reverse,GI,GA]at C;rcases C with rfl|⟨p,hp,rfl⟩;exact U.1;exact U.2 p hp
  split at h;rename_i F' f;have a9:X.own=true:=xQ d0;have c5:AlsOk n0 ops.size ((k,n0+k,X)::S.als):=by refine⟨?_,?_,?_,?_⟩;intro x a;rcases GI.1 a with rfl|a;rfl;exact tr.als_ok.id x a;intro x a;rcases GI.1 a with rfl|a;exact d7;exact tr.als_ok.lt x a;intro x a;rcases GI.1 a with rfl|a;exact a9;exact tr.als_ok.own x a;intro x a y hy e;rcases GI.1 a with rfl|a<;>rcases GI.1 hy with rfl|hy;rfl;exact absurd e.symm (t y hy);exact absurd e (t x a);exact tr.als_ok.uniq x a y hy e
  refine iw ok sf b rest (k+1) _ _ _ S1 (tr.step (S':={S with F:=F',als:=(k,n0+k,X)::S.als}) ho f rfl ?_ ?_ (λx a=>by have:=tr.es_lt x a;omega) tr.es_eff tr.es_inc ?_ c5 tr.c0 tr.cnx (λq O=>by have:=tr.qsl q O;omega)) hr R h;intro i o1 F1 v1 hi b0 d;have a1:((nth ms i).getD 0).testBit k=false:=by cases hc:((nth ms i).getD 0).testBit k;rfl;have:=sf.low i (by omega) k hc;omega
  have a3:∀ x∈(k,n0+k,X)::S.als,(∀y∈S.als,y.1≠i)->x.1≠i:=by intro x a c6;rcases GI.1 a with rfl|a;simp only;omega;exact c6 x a
  rcases d with⟨w,u,L,N⟩|⟨w,u,L,N,V⟩|⟨w,u,a2,e4,L,N,V⟩|⟨w,u,e,J,G2,H1,s1,s2,s3,s4,s5,s6⟩;exact .inl ⟨w,u,L,λx a=>a3 x a N⟩;refine .inr (.inl ⟨w,u,λx a=>a3 x a L,N,λe J g c1 c2=>?_⟩);obtain⟨H1,e2,d4⟩:=V e J g c1 c2;exact⟨H1,by rw[lP a1];exact e2,d4⟩;exact .inr (.inr (.inl ⟨w,u,a2,e4,L,GS _ N,V⟩));refine .inr (.inr (.inr ⟨w,λx a=>a3 x a u,e,J,G2,H1,s1,s2,s3,by rw[lP a1];exact s4,s5,?_⟩));intro x a a2 hv;rcases GI.1 a with rfl|a;exfalso;obtain⟨_,t2,_,_⟩:=fH s4 (λy hy=>AObj.here_of_own (tr.als_ok.own y hy));rcases t2 _ _ hv with hg|⟨_,j,s,_⟩;rw[d2 J (GM s2)]at hg;cases hg;have:=tr.als_ok.id _ s;have:=tr.als_lt _ s;simp only at*;omega;exact s6 x a a2 hv;exact .inr (.inr (.inl ⟨Y,K,X,fv,d0,by simp,rfl⟩));intro x a;rcases GI.1 a with rfl|a;simp;have:=tr.als_lt x a;omega;cases h;split at h;rename_i H hH;split at h;rename_i v O;have c3:∀ (e:Nat) G,S.cs[e]? =some G->(G=S.G/\e=S.es.length)∨(e<S.es.length/\(S.past.map (·.2)).reverse[e]? =some G):=by
   intro e G C;simp only[RS.cs,JG]at C;rw[G0]at C;have d6:(S.past.map (·.2)).reverse.length=S.es.length:=by simp[RS.es]
   rw[d6]at C;by_cases he:e<S.es.length;rw[Gw he]at C;exact .inr ⟨he,C⟩;rw[D' he]at C;have:e-S.es.length=0:=by have:=(GE.1 C).1;simp at this;omega
   rw[this]at C;simp at C;exact .inl ⟨C.symm,by omega⟩
  split at h;rename_i M;cases a6:iU E S.als ⟨k,(nth ms k).getD 0,o,S.F,v⟩ S.past;rw[a6]at h;simp at h;rw[a6]at h;simp only[C']at h;split at h;rename_i F' f;refine iw ok sf b rest (k+1) _ _ _ S1 (tr.step (S':={S with F:=F',qs:=⟨k,(nth ms k).getD 0,o,S.F,v⟩::S.qs}) ho f rfl ?_ ?_ (λx a=>by have:=tr.es_lt x a;omega) tr.es_eff tr.es_inc (λx a=>by have:=tr.als_lt x a;omega) tr.als_ok tr.c0 tr.cnx ?_) hr R h;intro i o1 F1 v1 hi b0 d;rcases d with r|⟨w,u,L,N,V⟩|r|r;exact .inl r;exact .inr (.inl ⟨w,u,L,λhd=>GS _ (N hd),V⟩);exact .inr (.inr (.inl r));exact .inr (.inr (.inr r));refine .inr (.inl ⟨Y,K,t,λ_=>by simp,λe G C c1 c2=>?_⟩);rcases c3 e G C with⟨rfl,rfl⟩|⟨he,e3⟩;exact⟨H,hH,O⟩;exact ot (iT a6 e G e3 λj z s I=>c1 j z s I);intro q a5;rcases GI.1 a5 with rfl|a5;simp;have:=tr.qsl q a5;omega;cases h;rename_i M;split at h;rename_i F' f;refine iw ok sf b rest (k+1) _ _ _ S1 (tr.step (S':={S with F:=F'}) ho f rfl (λi o F v _ _ d=>d) ?_ (λx a=>by have:=tr.es_lt x a;omega) tr.es_eff tr.es_inc (λx a=>by have:=tr.als_lt x a;omega) tr.als_ok tr.c0 tr.cnx (λq O=>by have:=tr.qsl q O;omega)) hr R h;refine .inr (.inl ⟨Y,K,t,(λhd=>by rw[M]at hd;cases hd),λe G C c1 c2=>?_⟩);obtain⟨H2,a8⟩:=gx (m:=(nth ms k).getD 0) S.als G Z;exact⟨H2,a8,by rw[jV (H':=H) M];exact O⟩;cases h;cases h;cases h
end
abbrev _root_.Go.ID:=@List.range_eq_range'
abbrev _root_.Go.JB:=@Go.wp_loop_rounds
variable {A:AH}{E:Env}{n:Nat}{P:Program}{σ:Sig}{F:T Value}{w:World}
def qi(call:bV)(E:Env)(ops:Array Oper)(n:Nat)(F:T Value)(A:AH):Option (T Value×AH):=
 let l:=ops.toList
 let sz:=l.length
 bif Nat.blt (A.next+sz+1) 1099511627776 then
  (match regA call E l (eZ l []) n A.next sz l 0 ⟨F,⟨A.t,A.next+sz⟩,[],[],[]⟩with
  |some S=>(match b6 (2 ^ sz-1) S.als S.G with|some A'=>some (S.F,A')|none=>none)
  |none=>none)else none
theorem sg(B:E.Ok){c:bV}(hc:fp E c){ops:Array Oper}(e:n6 E ops=true){D:T Value}{A':AH}(h:qi c E ops n F A=some (D,A'))
 {a:Act}(R:Rel E.P σ A w) (Z:Glob E σ) (hF:FR σ F n a) {id:Nat}{Q:Exit->Act->World->Prop}
 (hQ:∀ C w' σ',FR σ' D n C->Rel E.P σ' A' w'->Ext σ A w σ' A' w'->Q .normal C w'):(Code.region id ops true).wp E.P Q a w:=by
 unfold qi at h;simp only at h;have g:ops.toList.length=ops.size:=by simp
 rw[g]at h;cases k:Nat.blt (A.next+ops.size+1) 1099511627776;rw[k]at h;simp at h;rw[k]at h;simp only[C']at h;rw[blt_eq,GQ]at k;split at h;rename_i S hS;split at h;rename_i A2 hA2;cases h;have I:=sf_of e;have f:(2:Nat) ^ FU=1099511627776:=by decide
 have m:TRp c E ops (eZ ops.toList []) n A.next F ⟨A.t,A.next+ops.size⟩ 0 ⟨F,⟨A.t,A.next+ops.size⟩,[],[],[]⟩ [F] []:=⟨rfl,rfl,rfl,rfl,λi o y=>by omega,λx b=>by simp at b,λx b=>by simp at b,λj j' i i' u=>by simp[RS.es]at u,λx b=>by simp at b,⟨λx b=>by simp at b,λx b=>by simp at b,λx b=>by simp at b,λx b=>by simp at b⟩,rfl,λG l=>by simp at l;subst l;exact GK _,λq Y=>by simp at Y⟩
 obtain⟨fs,H,d⟩:=iw B I (by rw[f];exact k) ops.toList 0 _ _ _ S m (λi y=>by simp) (by simp) hS;have z:S.cs[S.es.length]? =some S.G:=by simp only[RS.cs,RS.es,JG];rw[G0,D' (by simp)];simp
 have p:TR c E ops (eZ ops.toList []) n A.next F fs H S.cs S.es S.als:=by
  refine⟨d.fs0,λi o s=>?_,λj i u=>?_,d.es_inc,d.als_ok,by simp[RS.cs,RS.es],λG l=>d.cnx G (by simpa[RS.cs,or_comm]using l)⟩;have y:i<ops.size:=by rcases Hg i ops.size with h|h;exact h;rw[He h]at s;cases s
  obtain⟨F1,F2,v,N,M,L,K,J⟩:=d.row i o y s;refine⟨F1,F2,v,N,M,L,K,?_⟩;rcases J with r|⟨X,V,U,q4,O⟩|r|r;exact .inl r;exact .inr (.inl ⟨X,V,U,O⟩);exact .inr (.inr (.inl r));exact .inr (.inr (.inr r));have:=GM u;rw[vz]at this;obtain⟨x,b,rfl⟩:=this;exact d.es_eff x b
 exact uQ B hc e p d.c0 z d.fsk hA2 R Z hF hQ;cases h;cases h
inductive Ex where
 |normal
 |exit (id:Nat)
 |ret
def Ex.of:Ex->Exit
 | .normal=>.normal
 | .exit id=>.exit id
 | .ret=>.ret
def b9:Lh->Nat->T Value->Option (T Value)
 | [],_,F=>some F
 |v::l,i,F=>match T.set FU F i v with|some F'=>b9 l (i+1) F'|none=>none
theorem dU:∀ {l:Lh}{i:Nat}{F a:T Value},b9 l i F=some a->∀ t,a.get t=if i<=t/\t<i+l.length then l[t-i]? else F.get t
 | [],i,F,a,h,t=>by simp only[b9,osI]at h;subst h;rw[D' (by simp)]
 |v::l,i,F,a,h,t=>by simp only[b9]at h;split at h;rename_i f d;have b:=dU h t;rw[b,Hp d];by_cases c:i+1<=t/\t<i+1+l.length;rw[Gw c,Gw (by simp;omega),show t-i=(t-(i+1))+1 by omega,Ic];rw[D' c];by_cases e:t=i;subst e;rw[Gw rfl,Gw (by simp)];simp;rw[D' e,D' (by simp;omega)];cases h
def resA(E:Env)(A:AH)(F:T Value):ResultVar->Lj
 | .tmp t=>slot F t
 | .cell a t=>(match slot F a with|some p=>vH E A t p|none=>none)
def cD(E:Env)(A:AH)(F:T Value)(rs:List ResultVar):Lj:=
 match mapO (resA E A F) rs with
 |some [v]=>some v
 |some vs=>some (.tuple ⟨vs⟩)
 |none=>none
def iN(E:Env)(rec:Code->Nat->T Value->AH->Option (Ex×T Value×AH)):bV:=λf args A=>
 match E.fn f with
 | some fn=>(match fn.body,b9 args 0 .leaf with
   | some c,some F=>bif Nat.ble args.length fn.ntmps then(match rec c fn.ntmps F A with
     |some (.exit _,_,_)=>none
     |some (_,F',A')=>(match cD E A' F' fn.results.toList with|some v=>some (v,A')|none=>none)
     |none=>none)else none
   |_,_=>none)
 |none=>none
def evC(E:Env):Nat->Code->Nat->T Value->AH->Option (Ex×T Value×AH)
 |0,_,_,_,_=>none
 | k +1,c,n,F,A=>
   match c with
   | .skip=>some (.normal,F,A)
   | .label _=>some (.normal,F,A)
   | .region _ ops draw=>(match draw with
     |false=>(match ku (iN E (evC E k)) E ops.toList n ops.toList F A with|some (F',A')=>some (.normal,F',A')|none=>none)
     |true=>(match qi (iN E (evC E k)) E ops n F A with|some (F',A')=>some (.normal,F',A')|none=>none))
   | .seq x y=>(match evC E k x n F A with
     |some (.normal,F',A')=>evC E k y n F' A'
     |r=>r)
   | .cond b x y=>(match ev E F b with
     |some (.bool true)=>evC E k x n F A
     |some (.bool false)=>evC E k y n F A
     |_=>none)
   | .block id b=>(match evC E k b n F A with
     |some (.exit id',F',A')=>bif Nat.beq id' id then some (.normal,F',A')else some (.exit id',F',A')
     |r=>r)
   | .loop b=>(match evC E k b n F A with
     |some (.normal,F',A')=>evC E k (.loop b) n F' A'
     |r=>r)
   | .scope b=>evC E k b n F A
   | .exit id=>some (.exit id,F,A)
   | .ret=>some (.ret,F,A)
   |_=>none
def bN(E:Env):Code->Bool
 | .region _ ops draw=> !draw||n6 E ops
 | .seq x y=>bN E x&&bN E y
 | .cond _ x y=>bN E x&&bN E y
 | .block _ b| .loop b| .scope b=>bN E b
 |_=>true
def resM(tmps:Array Value):ResultVar->Sem Value
 | .tmp t=>pure (tmps.getD t undef)
 | .cell a t=>do loadVar t (<-asAddr (tmps.getD a undef))
theorem res_ok(e:E.Ok)(R:Rel E.P σ A w){a:Act}(c:FR σ F n a){r:ResultVar}{v:Value}(h:resA E A F r=some v):
 ∃v',(resM a.tmps r).run E.P w=.ok v' w/\VR σ v v':=by
 cases r with
 |tmp t=>exact⟨_,rfl,c.val t v h⟩
 |cell x t=>
 simp only[resA]at h;split at h;rotate_left;cases h;rename_i z g;have b:=c.val x z g;obtain⟨v',d,j⟩:=vF e R b h;refine⟨v',?_,j⟩;simp only[resM,GN];generalize a.tmps.getD x undef=y at b d;unfold vH at h;split at h;cases b with
 |ptr i f=>simpa[Instr.loadAt,Instr.sureAddr,asAddr]using d
 cases h
theorem gb{E:Env}(e:E.Ok){σ:Sig}{A:AH}{w:World}(R:Rel E.P σ A w){F:T Value}{n:Nat}{a:Act}(f:FR σ F n a):∀ {c:List ResultVar}{vs:Lh},mapO (resA E A F) c=some vs->
 ∃vs',(c.mapM (resM a.tmps)).run E.P w=.ok vs' w/\VRs σ vs vs'
 | [],vs,h=>by simp[mapO]at h;subst h;exact⟨[],by simp,.nil⟩
 | r::c,vs,h=>by
  simp only[mapO]at h;cases d:resA E A F r with
  |none=>simp[d]at h
  |some v=>
  cases b:mapO (resA E A F) c with
  |none=>simp[d,b]at h
  |some l=>simp only[d,b,osI]at h;subst h;obtain⟨g,o,m⟩:=res_ok e R f d;obtain⟨i,k,j⟩:=gb e R f b;exact⟨g::i,by simp[List.mapM_cons,o,k],.cons m j⟩
theorem iv(j:E.Ok)(R:Rel E.P σ A w){a:Act}(k:FR σ F n a){fn:Func}{v:Value}(h:cD E A F fn.results.toList=some v):
 ∃v',(results fn a.tmps).run E.P w=.ok v' w/\VR σ v v':=by
 have e:results fn a.tmps=(do let c <-fn.results.mapM (resM a.tmps);pure (if h:c.size=1 then c[0]else .tuple c)):=by unfold results;congr 1
 rw[e];unfold cD at h;split at h;rename_i u g;cases h;obtain⟨b,i,d⟩:=gb j R k g;cases d with
 |cons l t=>cases t;rename_i v';refine⟨v',?_,l⟩;simp[Array.mapM_eq_mapM_toList,i]
 rename_i c f g;cases h;obtain⟨b,i,d⟩:=gb j R k g;refine⟨.tuple ⟨b⟩,?_,.tuple d⟩;have o:¬ b.length=1:=by rw[d.length];intro p;obtain⟨u,m⟩:=List.length_eq_one_iff.1 p;subst m;exact f u rfl
 simp[Array.mapM_eq_mapM_toList,i,o];cases h
def CodeS(E:Env)(k:Nat):Prop:=∀ c,bN E c=true->∀ n F A ex F' A',evC E k c n F A=some (ex,F',A')->∀ σ a w,Rel E.P σ A w->Glob E σ->FR σ F n a->
 ∀Q:Exit->Act->World->Prop,(∀a' w' σ',FR σ' F' n a'->Rel E.P σ' A' w'->Ext σ A w σ' A' w'->Q ex.of a' w')->c.wp E.P Q a w
def LoopS(E:Env)(k:Nat):Prop:=∀ c,bN E c=true->∀ n F A ex F' A',evC E k (.loop c) n F A=some (ex,F',A')->∀ σ a w,Rel E.P σ A w->Glob E σ->FR σ F n a->
 ∀Q:Exit->Act->World->Prop,(∀a' w' σ',FR σ' F' n a'->Rel E.P σ' A' w'->Ext σ A w σ' A' w'->Q ex.of a' w')->Code.rounds E.P c Q k a w
def ug(E:Env):Prop:=∀ f fn c,E.fn f=some fn->fn.body=some c->bN E c=true
theorem qq(L:E.Ok)(Z:ug E){k:Nat}(X:CodeS E k):fp E (iN E (evC E k)):=by
 intro f s A v I h σ w b R Y N;unfold iN at h;split at h;rename_i o B;split at h;rename_i c F i l;cases C:Nat.ble s.length o.ntmps;rw[C]at h;simp at h;rw[C]at h;simp only[C']at h;have C:=H9 C;have M:=N.length;have G:FR σ F o.ntmps {tmps:=(⟨b⟩:Array Value)++Array.replicate (o.ntmps-(⟨b⟩:Array Value).size) undef,defers:=[]}:=by
  refine⟨by simp;omega,λt u0 g=>?_,rfl⟩;unfold slot at g;rw[dU l t]at g;simp only;rw[Hf,IY];by_cases ht:t<s.length;rw[Gw ⟨IM _,by omega⟩,JO]at g;rw[Gw (by simp;omega)];obtain⟨u,h1,h2⟩:=N.get g;have:(⟨b⟩:Array Value)[t]? =some u:=by simpa using h1
  rw[this];exact h2;rw[D' (by omega)]at g;cases g
 have H:∀ (r:Ex) (y:T Value) (p:AH),r.of=.normal∨r.of=.ret->evC E k c o.ntmps F A=some (r,y,p)->(match cD E p y o.results.toList with|some v=>some (v,p)|none=>none)=some (v,I)->
  Calls E.P f ⟨b⟩ w (λe j=>∃ q a,e=.returned q/\VR a v q/\Rel E.P a I j/\Ext σ A w a I j):=by
  intro r y p m x d
  split at d
  · rename_i u V
    simp only[osI,GC]at d
    obtain⟨rfl,rfl⟩:=d
    refine calls_of_wp (L.fn f o B) i (X c (Z f o c B i) o.ntmps F A r y p x σ _ w R Y G _ λO j a K J U=>?_)
    obtain⟨q,S,Q⟩:=iv L J K V
    have z:O.defers=[]/\∃ v,(results o O.tmps).run E.P j=.ok v j/\(λe j=>∃ q a,e=Ending.returned q/\VR a u q/\Rel E.P a p j/\Ext σ A w a p j) (.returned v) j:=
     ⟨K.defers,q,S,q,a,rfl,Q,J,U⟩
    rcases m with m|m<;>rw[m]<;>exact z
  · cases d
 split at h;cases h;rename_i r y p D x;refine H r y p ?_ x h;cases r with
 |normal=>exact .inl rfl
 |ret=>exact .inr rfl
 |exit id=>exact absurd rfl (λe=>D id e)
 cases h;cases h;cases h
theorem nk{E:Env}(X:E.Ok)(hf:ug E):∀ k,CodeS E k/\LoopS E k
 |0=>⟨λc _ n F A H K L h=>by simp[evC]at h,λc _ n F A H K L h=>by simp[evC]at h⟩
 | k +1=>by
  obtain⟨o,a0⟩:=nk X hf k;have G:=qq X hf o;have hL:LoopS E (k+1):=by
   intro c u n F A H K L h σ a w R C v Q j;simp only[evC]at h;show c.wp E.P (Exit.then (Code.rounds E.P c Q k) Q) a w;cases g:evC E k c n F A with
   |none=>simp[g]at h
   |some r=>
   obtain⟨p,I,J⟩:=r;refine o c u n F A p I J g σ a w R C v _ λB q d t s m=>?_;have D:=Ext.sub R m;cases p with
   |normal=>simp only[g]at h;exact a0 c u n I J H K L h d B q s (C.sub D) t Q λa2 w2 M p1 p2 p3=>j a2 w2 M p1 p2 (m.trans p3)
   |exit id=>simp only[g,osI,GC]at h;obtain⟨rfl,rfl,rfl⟩:=h;exact j B q d t s m
   |ret=>simp only[g,osI,GC]at h;obtain⟨rfl,rfl,rfl⟩:=h;exact j B q d t s m
  refine⟨?_,hL⟩;intro c u n F A H K L h σ a w R C v Q j;cases c with
  |skip=>simp only[evC,osI,GC]at h;obtain⟨rfl,rfl,rfl⟩:=h;exact wp_skip (j a w σ v R (Ext.refl _ _ _))
  |label l=>simp only[evC,osI,GC]at h;obtain⟨rfl,rfl,rfl⟩:=h;exact wp_label (j a w σ v R (Ext.refl _ _ _))
  |region id N V=>simp only[evC]at h;cases V;simp only at h;split at h;rename_i I J S;simp only[osI,GC]at h;obtain⟨rfl,rfl,rfl⟩:=h;refine wp_region ?_;have:=jr X G (ops:=N) (Q:=Q) N.toList 0 F I A J σ a w S (λi hi=>by simp) R C v (λa' w' Z t s m=>j a' w' Z t s m);rw[ID];simpa using this;cases h;simp only at h;split at h;rename_i I J S;simp only[osI,GC]at h;obtain⟨rfl,rfl,rfl⟩:=h;exact sg X G (by simpa[bN]using u) S R C v j;cases h
  | seq x y=>
   simp only[bN,f']at u;simp only[evC]at h;refine wp_seq ?_;cases g:evC E k x n F A with
   |none=>simp[g]at h
   |some r=>
   obtain⟨p,I,J⟩:=r;refine o x u.1 n F A p I J g σ a w R C v _ λB q d t s m=>?_;have D:=Ext.sub R m;cases p with
   |normal=>simp only[g]at h;exact o y u.2 n I J H K L h d B q s (C.sub D) t Q λa2 w2 M p1 p2 p3=>j a2 w2 M p1 p2 (m.trans p3)
   |exit id=>simp only[g,osI,GC]at h;obtain⟨rfl,rfl,rfl⟩:=h;exact j B q d t s m
   |ret=>simp only[g,osI,GC]at h;obtain⟨rfl,rfl,rfl⟩:=h;exact j B q d t s m
  | cond b x y=>
   simp only[bN,f']at u;simp only[evC]at h;split at h;rename_i g;have U:=oO C v.val b _ g;have e:a.eval b=.bool true:=by generalize a.eval b=z at U;cases U;rfl
   exact wp_cond_true e (o x u.1 n F A H K L h σ a w R C v Q j);rename_i g;have U:=oO C v.val b _ g;have e:a.eval b=.bool false:=by generalize a.eval b=z at U;cases U;rfl
   exact wp_cond_false e (o y u.2 n F A H K L h σ a w R C v Q j);cases h
  | block id b=>
   simp only[bN]at u;simp only[evC]at h;refine wp_block ?_;cases g:evC E k b n F A with
   |none=>simp[g]at h
   |some r=>
   obtain⟨p,I,J⟩:=r;refine o b u n F A p I J g σ a w R C v _ λB q d t s m=>?_;cases p with
   |normal=>simp only[g,osI,GC]at h;obtain⟨rfl,rfl,rfl⟩:=h;exact j B q d t s m
   | exit O=>
    simp only[g]at h;show(if O=id then Q .normal B q else Q (.exit O) B q);cases Y:Nat.beq O id with
    |true=>rw[Y]at h;simp only[C',osI,GC]at h;obtain⟨rfl,rfl,rfl⟩:=h;rw[Gw (Gy Y)];exact j B q d t s m
    |false=>rw[Y]at h;simp only[GT,osI,GC]at h;obtain⟨rfl,rfl,rfl⟩:=h;rw[D' (aW Y)];exact j B q d t s m
   |ret=>simp only[g,osI,GC]at h;obtain⟨rfl,rfl,rfl⟩:=h;exact j B q d t s m
  |loop b=>simp only[bN]at u;exact JB (k+1) (hL b u n F A H K L h σ a w R C v Q j)
  |scope b=>simp only[bN]at u;simp only[evC]at h;refine wp_scope_straight (o b u n F A H K L h σ a w R C v _ λB q d t s m=>?_);have:=j B q d t s m;cases H<;>exact this
  |exit id=>simp only[evC,osI,GC]at h;obtain⟨rfl,rfl,rfl⟩:=h;exact wp_exit (j a w σ v R (Ext.refl _ _ _))
  |ret=>simp only[evC,osI,GC]at h;obtain⟨rfl,rfl,rfl⟩:=h;exact wp_ret (j a w σ v R (Ext.refl _ _ _))
  |rangeFunc f ps x b=>simp[evC]at h
  |goto l=>simp[evC]at h
  |refuse a3=>simp[evC]at h
def sig0(w:World):Sig:=⟨λ_=>none,λb=>w.heap[b]?,λ_=>False⟩
theorem rel0(P:Program)(w:World):Rel P (sig0 w) ⟨.leaf,0⟩ w:=
 ⟨λB o h=>by simp[T.get]at h,λB d o c x a h=>by simp[T.get]at h,(λB x h=>by cases h),λB h=>rfl,λb o h=>h,λB o x h=>by simp[T.get]at h,λ_ h=>h.elim⟩
abbrev _root_.Go.IE:=@Int.ofNat_eq_natCast
def ltI(x y:Int):Bool:=
 match x with
 | .ofNat a=>(match y with| .ofNat b=>Nat.blt a b| .negSucc _=>false)
 | .negSucc a=>(match y with| .ofNat _=>true| .negSucc b=>Nat.blt b a)
theorem oy(x y:Int):ltI x y=decide (x<y):=by
 rw[HE,GQ];cases x with
 | ofNat a=>
  cases y with
  |ofNat b=>simp only[ltI,blt_eq,GQ,IE];omega
  |negSucc b=>simp only[ltI,IE];constructor<;>intro h<;>first|omega|cases h
 |negSucc a=>
 cases y with
 |ofNat b=>simp only[ltI,IE,true_iff];omega
 |negSucc b=>simp only[ltI,blt_eq,GQ];omega
def eqI(x y:Int):Bool:=
 match x with
 | .ofNat a=>(match y with| .ofNat b=>Nat.beq a b| .negSucc _=>false)
 | .negSucc a=>(match y with| .ofNat _=>false| .negSucc b=>Nat.beq a b)
theorem sj(x y:Int):eqI x y=decide (x=y):=by
 rw[HE,GQ];cases x with
 | ofNat a=>
  cases y with
  |ofNat b=>simp only[eqI,beq_eq,GQ,IE];omega
  |negSucc b=>simp only[eqI,IE];constructor<;>intro h<;>first|omega|cases h
 |negSucc a=>
 cases y with
 |ofNat b=>simp only[eqI,IE];constructor<;>intro h<;>first|omega|cases h
 |negSucc b=>simp only[eqI,beq_eq,GQ];omega
def kY(s:Int):Bool:=
 match s with
 | .ofNat a=>Nat.ble a 4611686018427387903
 | .negSucc a=>Nat.ble a 4611686018427387903
theorem uA(s:Int):kY s=fJ s:=by
 unfold kY fJ;rw[HE];cases s with
 |ofNat a=>simp only[GO,f',GQ,IE];omega
 |negSucc a=>simp only[GO,f',GQ];omega
def pack(b:Bool)(s:Int):Lj:=Bool.rec none (some (.int .i64 s)) b
def two64(f:Int->Int->Lj)(a b:Value):Lj:=
 match a with
 | .int k x=>(match k with| .i64=>(match b with| .int k' y=>(match k' with| .i64=>f x y|_=>none)|_=>none)|_=>none)
 |_=>none
def twoC(f:Int->Int->Lj)(g:List UInt8->List UInt8->Lj)(a b:Value):Lj:=
 match a with
 | .int k x=>(match k with
   | .i64=>(match b with| .int k' y=>(match k' with| .i64=>f x y|_=>none)|_=>none)
   | .u8=>(match b with| .int k' y=>(match k' with| .u8=>f x y|_=>none)|_=>none)
   |_=>none)
 | .string x=>(match b with| .string y=>g x.data.toList y.data.toList|_=>none)
 |_=>none
def twoS(f:Int->Int->Lj)(g:List UInt8->List UInt8->Lj)(a b:Value):Lj:=
 match a with
 | .int k x=>(match k with| .i64=>(match b with| .int k' y=>(match k' with| .i64=>f x y|_=>none)|_=>none)|_=>none)
 | .string x=>(match b with| .string y=>g x.data.toList y.data.toList|_=>none)
 |_=>none
def addF(x y:Int):Lj:=pack (kY (x+y)) (x+y)
def subF(x y:Int):Lj:=pack (kY (x-y)) (x-y)
def mulF(x y:Int):Lj:=pack (kY (x*y)) (x*y)
def bo(b:Bool):Lj:=some (.bool b)
def catS(x y:List UInt8):Lj:=strO .add x y
def Bx(op:BinOp):Value->Value->Lj:=
 match op with
 | .add=>twoS addF catS
 | .sub=>two64 subF
 | .mul=>two64 mulF
 | .eql=>twoC (λx y=>bo (eqI x y)) (λx y=>bo (eqL x y))
 | .neq=>twoC (λx y=>bo (!eqI x y)) (λx y=>bo (!eqL x y))
 | .lss=>twoC (λx y=>bo (ltI x y)) (λx y=>bo (ltL x y))
 | .leq=>twoC (λx y=>bo (!ltI y x)) (strO .leq)
 | .gtr=>twoC (λx y=>bo (ltI y x)) (strO .gtr)
 | .geq=>twoC (λx y=>bo (!ltI x y)) (strO .geq)
 |_=>λ_ _=>none
theorem pA(s:Int):pack (kY s) s=(bif fJ s then some (.int .i64 s)else none):=by unfold pack;rw[uA];cases fJ s<;>rfl
theorem vo(x y:Int):(!ltI y x)=decide (x<=y):=by rw[oy,HE];simp
theorem zo(x y:Int):bo (!ltI y x)=some (.bool (decide (x<=y))):=by rw[vo];rfl
theorem xE(c:BinOp)(a b:Value):Bx c a b=gr c a b:=by
 cases a with
 | int k x=>
  cases k with
  | i64=>
   cases b with
   | int d y=>
    cases d with
    | i64=>
     cases c with
     |add=>exact pA _
     |sub=>exact pA _
     |mul=>exact pA _
     |eql=>show bo (eqI x y)=some (.bool (decide (x=y)));rw[sj];rfl
     |neq=>show bo (!eqI x y)=some (.bool (!decide (x=y)));rw[sj];rfl
     |lss=>show bo (ltI x y)=some (.bool (decide (x<y)));rw[oy];rfl
     |leq=>exact zo x y
     |gtr=>show bo (ltI y x)=some (.bool (decide (y<x)));rw[oy];rfl
     |geq=>exact zo y x
     |_=>rfl
    |_=>cases c<;>rfl
   |_=>cases c<;>rfl
  | u8=>
   cases b with
   | int d y=>
    cases d with
    | u8=>
     cases c with
     |eql=>show bo (eqI x y)=some (.bool (decide (x=y)));rw[sj];rfl
     |neq=>show bo (!eqI x y)=some (.bool (!decide (x=y)));rw[sj];rfl
     |lss=>show bo (ltI x y)=some (.bool (decide (x<y)));rw[oy];rfl
     |leq=>exact zo x y
     |gtr=>show bo (ltI y x)=some (.bool (decide (y<x)));rw[oy];rfl
     |geq=>exact zo y x
     |_=>rfl
    |_=>cases c<;>rfl
   |_=>cases c<;>rfl
  |_=>cases c<;>cases b<;>rfl
 |string x=>cases b<;>cases c<;>rfl
 |_=>cases c<;>rfl
def evSel(x:Operand):Env->T Value->Lj:=
 match x with
 | .tmp t=>λ_ F=>F.get t
 | .const v=>λ_ _=>bif flat v then some v else none
 | .global g=>λE _=>(match E.gl g with|some cs=>some (plc cs)|none=>none)
 | .func f=>λ_ _=>some (.func (.func f) ⟨[]⟩ ⟨[]⟩)
theorem zJ(E:Env)(F:T Value)(x:Operand):evSel x E F=ev E F x:=by
 cases x with
 |_=>rfl
def oV(A:AH)(o:Lj):Option (Value×AH):=Option.rec none (λv=>some (v,A)) o
def oS(o:Option AH):Option (Value×AH):=Option.rec none (λA=>some (undef,A)) o
def pickV(ρ:Operand->Lj)(a b:Operand)(c:Lj):Lj:=
 match c with
 |some (.bool t)=>(match t with|true=>ρ a|false=>ρ b)
 |_=>none
def nilV(o:Lj):Lj:=match o with|some v=>bif nnil v then some v else none|none=>none
def slow(E:Env)(op:BinOp)(t:TypeId)(x y:Operand)(a b:Value):Lj:=
 bif flat a&&flat b then(match prun E.P (do eqGuard op t x y a b;binOp op t a b)with|some v=>bif flat v then some v else none|none=>none)
 else bif vq E t a b then(match op with| .eql=>some (.bool false)| .neq=>some (.bool true)|_=>none)
 else bif uE E t a b then(match op with| .eql=>some (.bool true)| .neq=>some (.bool false)|_=>none)
 else none
def AI(E:Env)(op:BinOp)(t:TypeId)(x y:Operand)(a b:Value)(o:Lj):Lj:=Option.rec (slow E op t x y a b) (λv=>some v) o
def binV(E:Env)(op:BinOp)(t:TypeId)(x y:Operand)(a b:Lj):Lj:=
 match a with
 |some a=>(match b with|some b=>AI E op t x y a b (Bx op a b)|none=>none)
 |none=>none
theorem F6(E:Env)(c:BinOp)(t:TypeId)(x y:Operand)(a b:Lj):binV E c t x y a b=(match a,b with|some a,some b=>binA E c t x y a b|_,_=>none):=by
 cases a<;>cases b<;>try rfl
 rename_i a b;simp only[binV,AI,binA,xE];cases gr c a b<;>rfl
def sS(f:Value->Lj)(o:Lj):Lj:=Option.rec none f o
def sR(f:Value->Value->Lj)(a b:Lj):Lj:=Option.rec none (λa=>Option.rec none (f a) b) a
def callS(call:bV)(E:Env)(A:AH)(g:FuncId)(args:Lh):Option (Value×AH):=
 match E.fn g with
 |some _=>call g args A
 | none=>(match E.ext g with
   |some x=>x args A
   |none=>none)
def callV(call:bV)(E:Env)(A:AH)(f:Lj)(as:Option Lh):Option (Value×AH):=
 match f,as with
 |some (.func (.func g) ⟨first⟩ ⟨cap⟩),some as=>callS call E A g (first++as++cap)
 |_,_=>none
def orEff(e q:Option (Value×AH)):Option (Value×AH):=Option.rec e (λr=>some r) q
def qr(c:Call):bV->Env->AH->(Operand->Lj)->TypeId->Option (Value×AH):=
 match c.callee with
 | .value f=>λcall E A ρ _=>callV call E A (ρ f) (mapO ρ c.args.toList)
 | .builtin b=>λ_ E A ρ ty=>orEff (effB E A ρ b c) (oV A (jX E A ρ b c ty))
 | .invoke r m=>λcall E A ρ ty=>opA call E A ρ ty (.call c)
def fL(op:Op):bV->Env->AH->(Operand->Lj)->TypeId->Option (Value×AH):=
 match op with
 | .move x=>λ_ _ A ρ _=>oV A (ρ x)
 | .assign x=>λ_ _ A ρ _=>oV A (ρ x)
 | .pick c a b=>λ_ _ A ρ _=>oV A (pickV ρ a b (ρ c))
 | .nilCheck x=>λ_ _ A ρ _=>oV A (nilV (ρ x))
 | .load t a=>λ_ E A ρ _=>oV A (sS (vG E A t) (ρ a))
 | .binOp op t x y _=>λ_ E A ρ _=>oV A (binV E op t x y (ρ x) (ρ y))
 | .indexAddr t x i=>λ_ E A ρ _=>oV A (sR (idxB E t) (ρ x) (ρ i))
 | .fieldAddr t x f=>λ_ E A ρ _=>oV A (sS (λv=>fldA E t v f) (ρ x))
 | .field t x f=>λ_ E A ρ _=>oV A (sS (λv=>oL E t v f) (ρ x))
 | .index t x i=>λ_ E A ρ _=>oV A (sR (lj E t) (ρ x) (ρ i))
 | .lookup t x i cok=>λ_ E A ρ _=>oV A (sR (λa b=>gi E A t a b cok) (ρ x) (ρ i))
 | .store t a x=>λ_ E A ρ _=>(match ρ a,ρ x with|some p,some v=>oS (iQ E A t p v)|_,_=>none)
 | .call c=>qr c
 |op=>λcall E A ρ ty=>opA call E A ρ ty op
theorem ja(A:AH)(o:Lj):oV A o=(match o with|some v=>some (v,A)|none=>none):=by cases o<;>rfl
theorem aZ(b:E.sym=false)(A:AH)(ρ:Operand->Lj)(ty:TypeId)(a:Op):quiet E A ρ ty a=bj E A ρ ty a:=by unfold quiet;rw[b]
theorem yR(h:Op)(call:bV)(d:E.sym=false)(A:AH)(ρ:Operand->Lj)(ty:TypeId):fL h call E A ρ ty=opA call E A ρ ty h:=by
 cases h<;>try rfl
 case move x=>simp only[fL,opA,aZ d,bj,ja];cases ρ x<;>rfl
 case assign x=>simp only[fL,opA,aZ d,bj,ja];cases ρ x<;>rfl
 case pick c a b=>
  simp only[fL,opA,aZ d,bj,ja,pickV]
  cases o:ρ c with
  |none=>rfl
  | some v=>
    cases v<;>rfl
 case nilCheck x=>
  simp only[fL,opA,aZ d,bj,ja,nilV]
  cases ρ x with
  |none=>rfl
  |some v=>cases nnil v<;>rfl
 case load t a=>
  simp only[fL,opA,aZ d,bj,ja]
  cases ρ a with
  |none=>rfl
  |some v=>simp only[sS];cases vG E A t v<;>rfl
 case binOp h t x y yt=>
  simp only[fL,opA,aZ d,bj,ja,F6]
  cases ρ x with
  |none=>rfl
  | some a=>cases ρ y with
    |none=>rfl
    |some b=>cases l:binA E h t x y a b<;>simp only[l]<;>rfl
 case indexAddr t x i=>
  simp only[fL,opA,aZ d,bj,ja]
  cases ρ x with
  |none=>rfl
  | some a=>cases ρ i with
    |none=>rfl
    |some b=>simp only[sR];cases idxB E t a b<;>rfl
 case fieldAddr t x f=>
  simp only[fL,opA,aZ d,bj,ja]
  cases ρ x with
  |none=>rfl
  |some v=>simp only[sS];cases fldA E t v f<;>rfl
 case field t x f=>
  simp only[fL,opA,aZ d,bj,ja]
  cases ρ x with
  |none=>rfl
  |some v=>simp only[sS];cases oL E t v f<;>rfl
 case index t x i=>
  simp only[fL,opA,aZ d,bj,ja]
  cases ρ x with
  |none=>rfl
  | some a=>cases ρ i with
    |none=>rfl
    |some b=>simp only[sR];cases lj E t a b<;>rfl
 case lookup t x i cok=>
  simp only[fL,opA,aZ d,bj,ja]
  cases ρ x with
  |none=>rfl
  | some a=>cases ρ i with
    |none=>rfl
    |some b=>simp only[sR];cases gi E A t a b cok<;>rfl
 case store t a x=>
  simp only[fL,opA,aZ d,bj,bX,c8,effA,i6]
  cases ρ a with
  |none=>rfl
  | some p=>cases ρ x with
    |none=>rfl
    |some v=>simp only[oS];cases iQ E A t p v<;>rfl
 case call c=>
  obtain⟨g,e,j⟩:=c
  cases g with
  | value f=>
    simp only[fL,qr,opA,aZ d,bj,bX,c8,effA,i6,callV]
    cases ρ f with
    |none=>rfl
    | some v=>
      cases mapO ρ e.toList with
      |none=>cases v<;>first|rfl|(rename_i k _ _;cases k<;>rfl)
      |some q=>cases v<;>first|rfl|(rename_i k x y;cases k<;>first|rfl|(obtain⟨x⟩:=x;obtain⟨y⟩:=y;rfl))
  | builtin b=>
    simp only[fL,qr,opA,aZ d,bj,bX,c8,effA,i6,ja]
    cases jX E A ρ b ⟨.builtin b,e,j⟩ ty with
    |some v=>rfl
    |none=>simp only[orEff];cases effB E A ρ b ⟨.builtin b,e,j⟩<;>rfl
  |invoke r m=>rfl
abbrev Res:=Option (Ex×T Value×AH)
abbrev Rec:=Code->Nat->T Value->AH->Res
def evF(E:Env)(F:T Value)(x:Operand):Lj:=evSel x E F
theorem Bp(E:Env)(F:T Value):evF E F=ev E F:=funext λx=>zJ E F x
def my(n:Nat)(F:T Value)(dst:Option Tmp)(v:Value)(A:AH)(ih:T Value->AH->Option (T Value×AH)):Option (T Value×AH):=
 Option.rec none (λF'=>ih F' A) (put n F dst v)
def AJ(n:Nat)(F:T Value)(dst:Option Tmp)(ih:T Value->AH->Option (T Value×AH))(r:Option (Value×AH)):Option (T Value×AH):=
 Option.rec none (λp=>Prod.rec (λv A=>my n F dst v A ih) p) r
def vl(call:bV)(E:Env)(ops:List Oper)(n:Nat)(o:Oper)(ih:T Value->AH->Option (T Value×AH))(F:T Value)(A:AH):Option (T Value×AH):=
 Option.rec none (λb=>Bool.rec (my n F o.dst undef A ih) (AJ n F o.dst ih (fL o.op call E A (evF E F) o.type)) b) (cw ops F o)
def opsF(call:bV)(E:Env)(ops:List Oper)(n:Nat)(l:List Oper):T Value->AH->Option (T Value×AH):=
 List.rec (motive:=λ_=>T Value->AH->Option (T Value×AH)) (λF A=>some (F,A)) (λo _ ih F A=>vl call E ops n o ih F A) l
theorem pB(a:bV){E:Env}(c:E.sym=false)(ops:List Oper)(n:Nat):∀ (l:List Oper) (F:T Value) (A:AH),opsF a E ops n l F A=ku a E ops n l F A
 | [],F,A=>rfl
 | o::l,F,A=>by
  show vl a E ops n o (opsF a E ops n l) F A=_;simp only[vl,ku,Bp,yR _ _ c];cases cw ops F o with
  |none=>rfl
  |some b=>
  cases b;simp only[my];cases put n F o.dst undef with
  |none=>rfl
  |some d=>exact pB a c ops n l d A
  simp only[AJ,my];cases opA a E A (ev E F) o.type o.op with
  |none=>rfl
  |some r=>
  obtain⟨v,e⟩:=r;simp only;cases put n F o.dst v with
  |none=>rfl
  |some d=>exact pB a c ops n l d e
def rN(r:Option (T Value×AH)):Res:=Option.rec none (λp=>some (.normal,p)) r
def onEx(k:T Value->AH->Res)(r:Res):Res:=
 match r with
 |some (.normal,F,A)=>k F A
 |r=>r
def yU(id:Nat)(r:Res):Res:=
 match r with
 |some (.exit id',F',A')=>bif Nat.beq id' id then some (.normal,F',A')else some (.exit id',F',A')
 |r=>r
def Bw(x y:T Value->AH->Res)(F:T Value)(A:AH)(v:Lj):Res:=
 match v with
 |some (.bool b)=>Bool.rec (y F A) (x F A) b
 |_=>none
def uR(draw:Bool)(ops:Array Oper):Env->Rec->Nat->T Value->AH->Res:=
 match draw with
 |false=>λE ih n F A=>rN (opsF (iN E ih) E ops.toList n ops.toList F A)
 |true=>λE ih n F A=>rN (qi (iN E ih) E ops n F A)
def kx(c:Code):Env->Rec->Nat->T Value->AH->Res:=
 match c with
 | .skip=>λ_ _ _ F A=>some (.normal,F,A)
 | .label _=>λ_ _ _ F A=>some (.normal,F,A)
 | .region _ ops draw=>uR draw ops
 | .seq x y=>λ_ ih n F A=>onEx (ih y n) (ih x n F A)
 | .cond b x y=>λE ih n F A=>Bw (ih x n) (ih y n) F A (evF E F b)
 | .block id b=>λ_ ih n F A=>yU id (ih b n F A)
 | .loop b=>λ_ ih n F A=>onEx (ih (.loop b) n) (ih b n F A)
 | .scope b=>λ_ ih n F A=>ih b n F A
 | .exit id=>λ_ _ _ F A=>some (.exit id,F,A)
 | .ret=>λ_ _ _ F A=>some (.ret,F,A)
 |_=>λ_ _ _ _ _=>none
def evN(E:Env)(k:Nat):Rec:=Nat.rec (motive:=λ_=>Rec) (λ_ _ _ _=>none) (λ_ ih c n F A=>kx c E ih n F A) k
theorem si{E:Env}(a:E.sym=false):∀ k,evN E k=evC E k
 |0=>by funext c n F A;rfl
 | k +1=>by
  have d:=si a k;funext c n F A;show kx c E (evN E k) n F A=_;rw[d];cases c<;>try rfl
  case region id ops draw=>
   cases draw with
   | false=>
     simp only[kx,uR,evC,pB _ a,rN]
     cases ku (iN E (evC E k)) E ops.toList n ops.toList F A<;>rfl
   | true=>
     simp only[kx,uR,evC,rN]
     cases qi (iN E (evC E k)) E ops n F A<;>rfl
  case cond b x y=>
   simp only[kx,evC,Bw,Bp]
   cases ev E F b with
   |none=>rfl
   | some v=>
     cases v<;>try rfl
     rename_i t
     cases t<;>rfl
abbrev _root_.Go.HD:=@congrArg
abbrev ExtF:=Lh->AH->Option (Value×AH)
def Gv(P:Program)(f:FuncId)(x:ExtF):Prop:=∀ vs A v A',x vs A=some (v,A')->∀ σ w vs',Rel P σ A w->VRs σ vs vs'->Good P σ A w ((callFunc f ⟨vs'⟩).run P w) v A'
def Er(P:Program)(f:FuncId)(e:Array Value->Sem Value):Prop:=∃ fn,P.funcs[f]? =some fn/\(fn.name== "runtime.NumGoroutine")=false/\fn.body.isNone=true/\Extern.findNext fn=none/\Extern.find fn=some e
theorem uI{f:FuncId}{e:Array Value->Sem Value}(h:Er P f e)(args:Array Value)(w:World):(callFunc f args).run P w=((e args).run P w).andThen λv w'=>.ok (.value v) w':=by obtain⟨i,g,d,c,b,a⟩:=h;rw[run_callFunc_extern g d c b a]
def qf(c:UInt8):List UInt8->Nat->Lk
 | [],_=>none
 |x::l,i=>bif Nat.beq x.toNat c.toNat then some i else qf c l (i+1)
theorem r9(b:ByteArray)(c:UInt8):∀ (l:List UInt8) (i:Nat),b.data.toList.drop i=l->((List.range' i l.length).find? λi=>b[i]! ==c)=qf c l i
 | [],i,_=>by simp[qf]
 | x::l,i,h=>by
  have d:b.data.toList[i]? =some x:=by have:=HD (·[0]?) h;simpa[GV]using this
  have f:b[i]! =x:=by
   have g:b[i]? =some x:=by rw[o7];exact d
   rw[getElem!_def,g]
  have a:b.data.toList.drop (i+1)=l:=by have:=HD (List.drop 1) h;simpa[IW]using this
  simp only[GY,Je,List.find?_cons,f,qf];rw[r9 b c l (i+1) a];have e:(x==c)=Nat.beq x.toNat c.toNat:=by rw[HE];simp[UInt8.toNat_inj]
  rw[e];cases Nat.beq x.toNat c.toNat<;>rfl
def il:ExtF:=λvs A=>match vs with
 | [.string s,.int .u8 c]=>(match qf c.toNat.toUInt8 s.data.toList 0 with
   |some i=>some (goInt i,A)
   |none=>some (goInt (-1),A))
 |_=>none
theorem lR{f:FuncId}(h:Er P f Extern.BytealgIndexByte.indexByte):Gv P f il:=by
 intro p A v q a σ w j R k;unfold il at a;split at a;rename_i s c;cases k with
 | cons o t=>
  cases t with
  |cons m t=>
  cases t;cases o;cases m;have l:=r9 s c.toNat.toUInt8 s.data.toList 0 rfl;have g:(Extern.BytealgIndexByte.indexByte #[.string s,.int .u8 c]).run P w=.ok (match qf c.toNat.toUInt8 s.data.toList 0 with|some i=>goInt i|none=>goInt (-1)) w:=by
   have b:Extern.BytealgIndexByte.indexByte #[.string s,.int .u8 c]=(match(List.range s.size).find? λi=>s[i]! ==c.toNat.toUInt8 with
    |some i=>pure (goInt i)
    |none=>pure (goInt (-1))):=rfl
   have d:s.size=s.data.toList.length:=rfl;rw[b,d,ID,l];cases qf c.toNat.toUInt8 s.data.toList 0<;>rfl
  split at a;rename_i i e;cases a;refine Good.value (v':=goInt i) (w':=w) ?_ (.int _ _) R (Ext.refl _ _ _);rw[uI h,g,e];rfl;rename_i e;cases a;refine Good.value (v':=goInt (-1)) (w':=w) ?_ (.int _ _) R (Ext.refl _ _ _);rw[uI h,g,e];rfl
 cases a
def oM:List (FuncId×ExtF)->FuncId->Option ExtF
 | [],_=>none
 |(g,x)::l,f=>bif Nat.beq f g then some x else oM l f
def tT(P:Program)(nT nF:Nat)(tiT:T TypeInfo)(fnT:T Func)(gl:Nat->Option Lh)(ext:List (FuncId×ExtF))(sym:Bool:=false):Env where
 P:=P
 ti:=λt=>bif Nat.blt t nT then tiT.get t else none
 fn:=λf=>bif Nat.blt f nF then fnT.get f else none
 gl:=gl
 ext:=oM ext
 sym:=sym
def fill(a b:Option Func):Option Func:=match a with|none=>b|some x=>some x
def Fc(o:Option Func):Bool:=match o with|none=>true|some g=> !g.body.isNone&& !(g.name== "runtime.NumGoroutine")
inductive ExtsOk (P:Program):List (FuncId×ExtF)->Prop
 |nil:ExtsOk P []
 |cons {f:FuncId}{x:ExtF}{l:List (FuncId×ExtF)}(h:Gv P f x) (t:ExtsOk P l):ExtsOk P ((f,x)::l)
theorem ExtsOk.get:∀ {l:List (FuncId×ExtF)},ExtsOk P l->∀ {f:FuncId}{x:ExtF},oM l f=some x->Gv P f x
 |_,.nil,f,x,h=>by simp[oM]at h
 | _,.cons (f:=g) h t,f,x,hx=>by
  simp only[oM]at hx;cases e:Nat.beq f g with
  |true=>rw[e]at hx;simp only[C',osI]at hx;subst hx;obtain rfl:=Gy e;exact h
  |false=>rw[e]at hx;exact t.get hx
theorem qV{a :Type}{f g:Nat-> a}(h:(List.range n).map f=(List.range n).map g){t:Nat}(b:t<n):f t=g t:=by rw[List.map_inj_left]at h;exact h t (Hz.2 b)
theorem sm{l j:Nat}{d:T TypeInfo}{c:T Func}{r:Nat->Option Lh}{ext:List (FuncId×ExtF)}{k:Bool}
 (H:(List.range l).map d.get=(List.range l).map P.info?)
 (G:(List.range j).map (λf=>fill (c.get f) P.funcs[f]?)=(List.range j).map (λf=>P.funcs[f]?))
 (D:(List.range j).all (λf=>Fc (c.get f))=true)
 (C:P.follows .mixedOrders=true) (B:ExtsOk P ext):(tT P l j d c r ext k).Ok:=by
 have m:∀ {α :Type}{a b:Nat}{x:Option α}{y: α},(bif Nat.blt a b then x else none)=some y->a<b/\x=some y:=by intro α a b x y h;cases e:Nat.blt a b;rw[e]at h;simp at h;rw[e]at h;rw[blt_eq]at e;exact⟨by simpa using e,h⟩
 have o:∀ f g,(tT P l j d c r ext k).fn f=some g->f<j/\c.get f=some g:=λf g h=>m h;refine⟨?_,?_,?_,?_,C⟩;intro t i h;obtain⟨h,e⟩:=m (show(bif Nat.blt t l then d.get t else none)=some i from h);exact(qV H h).symm.trans e;intro f g h;obtain⟨h,e⟩:=o f g h;have:=qV G h;simp only[e,fill]at this;exact this.symm;intro f g h;obtain⟨h,e⟩:=o f g h;have:=Hc.1 D f (Hz.2 h);simp only[e,Fc,f',IH]at this;exact this;intro f x s A v I u z σ w p R q;exact B.get u s A v I z σ w p R q
def wQ(E:Env)(o:Option Func):Bool:=
 match o with
 |none=>true
 |some g=>(match g.body with|none=>true|some c=>bN E c)
theorem w9{j i:Nat}{d:T TypeInfo}{a:T Func}{k:Nat->Option Lh}{ext:List (FuncId×ExtF)}{g:Bool}
 (h:(List.range i).all (λf=>wQ (tT P j i d a k ext g) (a.get f))=true):ug (tT P j i d a k ext g):=by intro f m c b l;have b:(bif Nat.blt f i then a.get f else none)=some m:=b;cases e:Nat.blt f i;rw[e]at b;simp at b;rw[e]at b;simp only[C']at b;rw[blt_eq]at e;have:=Hc.1 h f (Hz.2 (by simpa using e));simpa only[b,wQ,l]using this
section
variable {call:bV}{E:Env}{ops:List Oper}{ms:Lg}{n n0 sz:Nat}
variable {A G H:AH}{als:List Al}{l:List Oper}{i:Nat}{o:Oper}{K:RS->Prop}{F F':T Value}{v:Value}
def OL(call:bV)(E:Env)(ops:List Oper)(n:Nat)(l:List Oper)(F:T Value)(A:AH)(K:T Value->AH->Prop):Prop:=∃ F' A',ku call E ops n l F A=some (F',A')/\K F' A'
def op1(call:bV)(E:Env)(ops:List Oper)(n:Nat)(o:Oper)(F:T Value)(A:AH):Option (T Value×AH):=
 match cw ops F o with
 | some true=>(match opA call E A (ev E F) o.type o.op with
   |some (v,A')=>(match put n F o.dst v with|some F'=>some (F',A')|none=>none)
   |none=>none)
 |some false=>(match put n F o.dst undef with|some F'=>some (F',A)|none=>none)
 |none=>none
theorem OL.nil{K:T Value->AH->Prop}(k:K F A):OL call E ops n [] F A K:=⟨F,A,rfl,k⟩
theorem OL.op{A':AH}{K:T Value->AH->Prop}(h:op1 call E ops n o F A=some (F',A'))(k:OL call E ops n l F' A' K):OL call E ops n (o::l) F A K:=by obtain⟨f,j,c,d⟩:=k;refine⟨f,j,?_,d⟩;unfold op1 at h;unfold ku;split at h;rename_i a;rw[a];split at h;rename_i v m e;rw[e];simp only;split at h;rename_i g b;rw[b];cases h;exact c;cases h;cases h;rename_i a;rw[a];simp only;split at h;rename_i g b;rw[b];cases h;exact c;cases h;cases h
theorem OL.quiet{K:T Value->AH->Prop}(a:cw ops F o=some true)(h:AM.quiet E A (ev E F) o.type o.op=some v)(b:put n F o.dst v=some F')(k:OL call E ops n l F' A K):OL call E ops n (o::l) F A K:=
 OL.op (by unfold op1;rw[a];simp only[opA,h,b]) k
theorem cC{c :Type}:∀ (f:Nat) (t:T c) (k:Nat) (x: c) (b:T c),t.get k=some x->T.set f t k x=some b->b=t
 |0,t,k,x,b,_,h=>by cases h
 |f+1,.leaf,k,x,b,hg,_=>by simp[T.get_leaf]at hg
 | f+1,.node l v r,k,x,b,hg,h=>by
  rw[T.set_node,T.setAt_eq]at h;rw[T.get_node]at hg;by_cases m:k=0;rw[Gw m]at h hg;simp only[osI]at h;rw[<-h,hg];rw[D' m]at h hg;by_cases e:k%2=1;rw[Gw e]at h hg;cases a:T.set f l (k/2) x with
  |none=>simp[a]at h
  |some q=>simp only[a,osI]at h;rw[<-h,cC f l _ x q hg a]
  rw[D' e]at h hg;cases a:T.set f r (k/2-1) x with
  |none=>simp[a]at h
  |some p=>simp only[a,osI]at h;rw[<-h,cC f r _ x p hg a]
 | f+1,.fn g,k,x,b,hg,h=>by
  rw[T.set_fn]at h;rw[T.get_fn]at hg;cases h;congr 1;funext j;by_cases d:j=k;subst d;have:Nat.beq j j=true:=by simp[GL]
  rw[this,hg];have:Nat.beq j k=false:=by cases s:Nat.beq j k;rfl;exact absurd (Gy s) d
  rw[this]
theorem OL.split{c:Oper}{f g:T Value}{K:T Value->AH->Prop}{j d:Nat}{a b:Bool}(r:o.guard=some (j,a))(q:nth ops j=some c)(s:c.dst=some d)(e:F.get d=some (.bool b))
 (m:T.set FU F d (.bool true)=some f) (p:T.set FU F d (.bool false)=some g) (h:b=true->OL call E ops n (o::l) f A K) (k:b=false->OL call E ops n (o::l) g A K):OL call E ops n (o::l) F A K:=by
 cases b with
 |true=>rw[<-cC _ _ _ _ _ e m];exact h rfl
 |false=>rw[<-cC _ _ _ _ _ e p];exact k rfl
def RL(call:bV)(E:Env)(ops:List Oper)(ms:Lg)(n n0 sz:Nat)(l:List Oper)(i:Nat)(S:RS)(K:RS->Prop):Prop:=∃ S',regA call E ops ms n n0 sz l i S=some S'/\K S'
theorem RL.nil{S:RS}(k:K S):RL call E ops ms n n0 sz [] i S K:=⟨S,rfl,k⟩
theorem RL.fin{Q:T Value->AH->Prop}{A':AH}{past:List (Nat×AH)}{qs:List Qu}(h:b6 (2 ^ sz-1) als G=some A')(k:Q F A'):RL call E ops ms n n0 sz [] i ⟨F,G,past,als,qs⟩ (λS=>∃ A',b6 (2 ^ sz-1) S.als S.G=some A'/\Q S.F A'):=⟨_,rfl,A',h,k⟩
theorem RL.skip{past:List (Nat×AH)}{qs:List Qu}(a:cw ops F o=some false)(b:put n F o.dst undef=some F')(k:RL call E ops ms n n0 sz l (i+1) ⟨F',G,past,als,qs⟩ K):RL call E ops ms n n0 sz (o::l) i ⟨F,G,past,als,qs⟩ K:=by obtain⟨c,h,k⟩:=k;exact⟨c,by unfold regA;rw[a];simp only[b];exact h,k⟩
theorem RL.quiet{past:List (Nat×AH)}{qs:List Qu}(a:cw ops F o=some true)(d:gN E o.op=false)(f:bX E (rho E F (bG o.op)) o.op=none)(g:b6 ((nth ms i).getD 0) als G=some H)
 (b:AM.quiet E H (rho E F (bG o.op)) o.type o.op=some v) (e:hdep o.op=false) (c:put n F o.dst v=some F') (k:RL call E ops ms n n0 sz l (i+1) ⟨F',G,past,als,qs⟩ K):RL call E ops ms n n0 sz (o::l) i ⟨F,G,past,als,qs⟩ K:=by obtain⟨j,h,k⟩:=k;exact⟨j,by unfold regA;rw[a];simp only[d,f,g,b,e,c];exact h,k⟩
def QC(E:Env)(als:List Al)(G:AH)(q:Qu):Prop:=∃ H,b6 q.m als G=some H/\AM.quiet E H (rho E q.F (bG q.o.op)) q.o.type q.o.op=some q.v
theorem oc(a:E.sym=true){q:Qu}(h:QC E als G q):fQ E als G q=true:=by obtain⟨H,c,b⟩:=h;unfold fQ;rw[c];simp only[b];exact uk a _
inductive POk (E:Env) (als:List Al) (q:Qu):List (Nat×AH)->Prop
 |nil:POk E als q []
 |bit {ie:Nat}{G:AH}{r:List (Nat×AH)}(h:q.m.testBit ie=true):POk E als q ((ie,G)::r)
 |chk {ie:Nat}{G:AH}{r:List (Nat×AH)}(h:QC E als G q) (t:POk E als q r):POk E als q ((ie,G)::r)
theorem vh(a:E.sym=true){q:Qu}{r:List (Nat×AH)}(h:POk E als q r):iU E als q r=true:=by
 induction h with
 |nil=>rfl
 |bit h=>simp only[iU,h,C']
 | @chk ie G r h t ih=>simp only[iU,oc a h,C',ih];cases q.m.testBit ie<;>rfl
theorem RL.read(c:E.sym=true){past:List (Nat×AH)}{qs:List Qu}(b:cw ops F o=some true)(f:gN E o.op=false)(j:bX E (rho E F (bG o.op)) o.op=none)(m:b6 ((nth ms i).getD 0) als G=some H)
 (d:AM.quiet E H (rho E F (bG o.op)) o.type o.op=some v) (g:hdep o.op=true) (a:POk E als ⟨i,(nth ms i).getD 0,o,F,v⟩ past) (e:put n F o.dst v=some F')
 (k:RL call E ops ms n n0 sz l (i+1) ⟨F',G,past,als,⟨i,(nth ms i).getD 0,o,F,v⟩::qs⟩ K):RL call E ops ms n n0 sz (o::l) i ⟨F,G,past,als,qs⟩ K:=by obtain⟨p,h,k⟩:=k;exact⟨p,by unfold regA;rw[b];simp only[f,j,m,d,g,e,vh c a,C'];exact h,k⟩
theorem RL.alloc{past:List (Nat×AH)}{qs:List Qu}{ob:AObj}{fv:Nat->Value}(a:cw ops F o=some true)(d:gN E o.op=false)(e:bX E (rho E F (bG o.op)) o.op=some (ob,fv))
 (b:((vis G (n0+i)).isNone&&past.all (λp=>(vis p.2 (n0+i)).isNone))=true) (c:put n F o.dst (fv (n0+i))=some F') (k:RL call E ops ms n n0 sz l (i+1) ⟨F',G,past,(i,n0+i,ob)::als,qs⟩ K):RL call E ops ms n n0 sz (o::l) i ⟨F,G,past,als,qs⟩ K:=by obtain⟨f,h,k⟩:=k;exact⟨f,by unfold regA;rw[a];simp only[d,e,b,c,C'];exact h,k⟩
inductive QOk (E:Env) (als:List Al) (G:AH) (m:Nat):List Qu->Prop
 |nil:QOk E als G m []
 |bit {q:Qu}{r:List Qu}(h:m.testBit q.i=true) (t:QOk E als G m r):QOk E als G m (q::r)
 |chk {q:Qu}{r:List Qu}(h:QC E als G q) (t:QOk E als G m r):QOk E als G m (q::r)
theorem C3(b:E.sym=true){m:Nat}{r:List Qu}(h:QOk E als G m r):r.all (λq=>m.testBit q.i||fQ E als G q)=true:=by
 induction h with
 |nil=>rfl
 |bit h t a=>simp only[I3,h,Bool.true_or,JW,a]
 |chk h t a=>simp only[I3,oc b h,Bool.or_true,JW,a]
theorem RL.eff(d:E.sym=true){past:List (Nat×AH)}{qs:List Qu}{a:AH}(c:cw ops F o=some true)(m:gN E o.op=true)(p:b6 ((nth ms i).getD 0) als G=some H)
 (b:c8 call E H (rho E F (bG o.op)) o.op=some (v,a)) (j:als.all (tG H a)=true) (e:QOk E als a ((nth ms i).getD 0) qs) (g:Nat.ble (n0+sz) a.next=true) (f:put n F o.dst v=some F')
 (k:RL call E ops ms n n0 sz l (i+1) ⟨F',a,(i,G)::past,als,qs⟩ K):RL call E ops ms n n0 sz (o::l) i ⟨F,G,past,als,qs⟩ K:=by obtain⟨q,h,k⟩:=k;exact⟨q,by unfold regA;rw[c];simp only[m,p,b,j,C3 d e,g,f,C',Bool.and_true];exact h,k⟩
theorem RL.split{c:Oper}{f g:T Value}{past:List (Nat×AH)}{qs:List Qu}{j d:Nat}{a b:Bool}(r:o.guard=some (j,a))(q:nth ops j=some c)(s:c.dst=some d)(e:F.get d=some (.bool b))
 (m:T.set FU F d (.bool true)=some f) (p:T.set FU F d (.bool false)=some g) (h:b=true->RL call E ops ms n n0 sz (o::l) i ⟨f,G,past,als,qs⟩ K) (k:b=false->RL call E ops ms n n0 sz (o::l) i ⟨g,G,past,als,qs⟩ K):RL call E ops ms n n0 sz (o::l) i ⟨F,G,past,als,qs⟩ K:=by
 cases b with
 |true=>rw[<-cC _ _ _ _ _ e m];exact h rfl
 |false=>rw[<-cC _ _ _ _ _ e p];exact k rfl
end
def At(E:Env)(σ0:Sig)(A0:AH)(w0:World)(n:Nat)(F:T Value)(A:AH)(a:Act)(w:World):Prop:=∃ σ,FR σ F n a/\Rel E.P σ A w/\Glob E σ/\Ext σ0 A0 w0 σ A w
abbrev Post:=Ex->T Value->AH->Prop
def W(E:Env)(A0:AH)(n:Nat)(c:Code)(Q:Post)(F:T Value)(A:AH):Prop:=∀ σ0 w0 a w,At E σ0 A0 w0 n F A a w->
 ∀Q':Exit->Act->World->Prop,(∀ex F' A' a' w',Q ex F' A'->At E σ0 A0 w0 n F' A' a' w'->Q' ex.of a' w')->c.wp E.P Q' a w
def Then(Q1:T Value->AH->Prop)(Q:Post):Post
 | .normal,F,A=>Q1 F A
 |ex,F,A=>Q ex F A
def Blk(id:Nat)(Q:Post):Post
 | .exit id',F,A=>bif Nat.beq id' id then Q .normal F A else Q (.exit id') F A
 |ex,F,A=>Q ex F A
section
variable {E:Env}{A0:AH}{n:Nat}{Q R:Post}{F F1:T Value}{A A1:AH}
variable {b:Code}{Q1:T Value->AH->Prop}
theorem Then.normal(h:Q1 F A):Then Q1 Q .normal F A:=h
theorem Then.ret(h:Q .ret F A):Then Q1 Q .ret F A:=h
theorem Then.exit{id:Nat}(h:Q (.exit id) F A):Then Q1 Q (.exit id) F A:=h
theorem Blk.normal{id:Nat}(h:Q .normal F A):Blk id Q .normal F A:=h
theorem Blk.ret{id:Nat}(h:Q .ret F A):Blk id Q .ret F A:=h
theorem Blk.out{id:Nat}(h:Q .normal F A):Blk id Q (.exit id) F A:=by simp only[Blk,beq_eq,Ia,C'];exact h
theorem Blk.on{id a:Nat}(c:Nat.beq a id=false)(h:Q (.exit a) F A):Blk id Q (.exit a) F A:=by simp only[Blk,c,GT];exact h
theorem W.mono{c:Code}(h:W E A0 n c Q F A)(l:∀ d e A',Q d e A'->R d e A'):W E A0 n c R F A:=
 fun f j a w i p m=>h f j a w i p λd e A' o k g=>m d e A' o k (l _ _ _ g)
theorem W.turn{c:Code}(h:∀ σ0 w0 a w,At E σ0 A0 w0 n F A a w->At E σ0 A0 w0 n F1 A1 a w)(k:W E A0 n c Q F1 A1):W E A0 n c Q F A:=
 fun σ0 w0 a w d=>k σ0 w0 a w (h σ0 w0 a w d)
theorem W.skip(h:Q .normal F A):W E A0 n .skip Q F A:=λ_ _ _ _ a _ c=>wp_skip (c _ _ _ _ _ h a)
theorem W.label{l:Nat}(h:Q .normal F A):W E A0 n (.label l) Q F A:=λ_ _ _ _ a _ c=>wp_label (c _ _ _ _ _ h a)
theorem W.exit{id:Nat}(h:Q (.exit id) F A):W E A0 n (.exit id) Q F A:=λ_ _ _ _ a _ c=>wp_exit (c _ _ _ _ _ h a)
theorem W.ret(h:Q .ret F A):W E A0 n .ret Q F A:=λ_ _ _ _ a _ c=>wp_ret (c _ _ _ _ _ h a)
theorem W.scope(h:W E A0 n b Q F A):W E A0 n (.scope b) Q F A:=fun d g a w e p k=>
 wp_scope_straight (h d g a w e _ λf m o l i j c=>by have:=k f m o l i j c;cases f<;>exact this)
theorem W.seq{x y:Code}(h:W E A0 n x (Then (W E A0 n y Q) Q) F A):W E A0 n (.seq x y) Q F A:=fun d i a w f m g=>
 wp_seq (h d i a w f _ λk o p l j e c=>by
  cases k with
  |normal=>exact e d i l j c m g
  |exit id=>exact g _ _ _ _ _ e c
  |ret=>exact g _ _ _ _ _ e c)
theorem W.cond{b:Operand}{x y:Code}{t:Bool}(m:ev E F b=some (.bool t))(l:t=true->W E A0 n x Q F A)(k:t=false->W E A0 n y Q F A):W E A0 n (.cond b x y) Q F A:=by
 intro d g a w f j i;have c:=f;obtain⟨q,p,s,o,r⟩:=f;have h:=oO o p.val b _ m;have e:a.eval b=.bool t:=by generalize a.eval b=z at h;cases h;rfl
 cases t with
 |true=>exact wp_cond_true e (l rfl d g a w c j i)
 |false=>exact wp_cond_false e (k rfl d g a w c j i)
theorem W.block{id:Nat}(h:W E A0 n b (Blk id Q) F A):W E A0 n (.block id b) Q F A:=fun i o a w j m g=>
 wp_block (h i o a w j _ λp q r l k f c=>by
  cases p with
  |normal=>exact g _ _ _ _ _ f c
  |ret=>exact g _ _ _ _ _ f c
  |exit d=>show(if d=id then m .normal l k else m (.exit d) l k);simp only[Blk]at f;by_cases e:d=id;subst e;rw[Gw rfl];simp only[beq_eq,Ia,C']at f;exact g _ _ _ _ _ f c;rw[D' e];simp only[beq_eq,e,It,GT]at f;exact g (.exit d) _ _ _ _ f c)
theorem W.loop(I:Nat->T Value->AH->Prop)(f:∀ m F A,I m F A->W E A0 n b (Then (λp A'=>∃ g,g<m/\I g p A') Q) F A){m:Nat}(h:I m F A):W E A0 n (.loop b) Q F A:=by
 intro e q a w d o r;have i:∀ k m F A a w,m<k->I m F A->At E e A0 q n F A a w->Code.rounds E.P b o k a w:=by
  intro k;induction k with
  |zero=>intro m F A a w v;omega
  |succ k t=>
  intro m F A a w v x d;show b.wp E.P (Exit.then (Code.rounds E.P b o k) o) a w;refine f m F A x e q a w d _ λy p A' z s j c=>?_;cases y with
  |normal=>obtain⟨g,u,l⟩:=j;exact t g p A' z s (by omega) l c
  |exit id=>exact r _ _ _ _ _ j c
  |ret=>exact r _ _ _ _ _ j c
 exact JB (m+1) (i (m+1) m F A a w (IC _) h d)
def WR(E:Env)(A0:AH)(n:Nat)(b:Code)(Q:Post):Nat->T Value->AH->Prop
 |0,_,_=>False
 |k+1,F,A=>W E A0 n b (Then (WR E A0 n b Q k) Q) F A
theorem WR.next{k:Nat}(h:W E A0 n b (Then (WR E A0 n b Q k) Q) F A):WR E A0 n b Q (k+1) F A:=h
theorem W.rounds(k:Nat)(h:WR E A0 n b Q k F A):W E A0 n (.loop b) Q F A:=by
 intro e j a w d i l;have f:∀ k F A a w,WR E A0 n b Q k F A->At E e A0 j n F A a w->Code.rounds E.P b i k a w:=by
  intro k;induction k with
  |zero=>intro F A a w h;exact h.elim
  |succ k o=>
  intro F A a w h d;show b.wp E.P (Exit.then (Code.rounds E.P b i k) i) a w;refine h e j a w d _ λp r s q m g c=>?_;cases p with
  |normal=>exact o r s q m g c
  |exit id=>exact l _ _ _ _ _ g c
  |ret=>exact l _ _ _ _ _ g c
 exact JB k (f k F A a w h d)
theorem W.region(t:E.Ok){c:bV}(d:fp E c){id:Nat}{ops:Array Oper}(h:OL c E ops.toList n ops.toList F A (Q .normal)):W E A0 n (.region id ops false) Q F A:=by intro o D a w f C x;obtain⟨p,z,k,j,y⟩:=f;obtain⟨l,m,v,u⟩:=h;refine wp_region ?_;have:=jr t d (ops:=ops) (Q:=C) ops.toList 0 F l A m p a w v (λi G=>by simp) k j z (λB q e s r g=>x .normal l m B q u ⟨e,s,r,j.sub (Ext.sub k g),y.trans g⟩);rw[ID];simpa using this
theorem W.drawn(v:E.Ok){c:bV}(d:fp E c){id:Nat}{ops:Array Oper}{l:List Oper}{sz:Nat}{m:Lg}(C:n6 E ops=true)(z:ops.toList=l)(f:l.length=sz)(g:eZ l []=m)(y:Nat.blt (A.next+sz+1) 1099511627776=true)
 (h:RL c E l m n A.next sz l 0 ⟨F,⟨A.t,A.next+sz⟩,[],[],[]⟩ λS=>∃ A',b6 (2 ^ sz-1) S.als S.G=some A'/\Q .normal S.F A'):W E A0 n (.region id ops true) Q F A:=by
 intro q M a w i N H;obtain⟨L,J,p,o,I⟩:=i;obtain⟨S,D,A',j,x⟩:=h;subst z;subst f;subst g;have B:qi c E ops n F A=some (S.F,A'):=by unfold qi;simp only[y,C',D,j]
 exact sg v d C B p o J λK r e u s k=>H .normal S.F A' K r x ⟨e,u,s,o.sub (Ext.sub p k),I.trans k⟩
end
abbrev _root_.Go.Hi:=@List.mem_singleton
abbrev _root_.Go.IP:=@Array.getElem?_eq_some_iff
variable {σ σ':Sig}
inductive HF:Value->Prop
 |scal {v:Value}(h:scal v=true):HF v
 |dat {sz:Nat}{els cap:Lh}(h:∀ x∈els,HF x):HF (.func (.yield sz) ⟨els⟩ ⟨cap⟩)
 |agg {cs:Lh}(h:∀ x∈cs,HF x):HF (.agg ⟨cs⟩)
 |tuple {cs:Lh}(h:∀ x∈cs,HF x):HF (.tuple ⟨cs⟩)
 |iface {t:TypeId}{v:Value}(h:HF v):HF (.iface t v)
theorem HF.nil:∀ x∈([]:Lh),HF x:=λx h=>by simp at h
theorem HF.cons{v:Value}{l:Lh}(h:HF v)(t:∀ x∈l,HF x):∀ x∈v::l,HF x:=λx a=>by rcases GI.1 a with rfl|a;exact h;exact t x a
theorem VRs.split:∀ {a b l:Lh},VRs σ (a++b) l->∃ l1 l2,l=l1++l2/\VRs σ a l1/\VRs σ b l2
 | [],b,l,h=>⟨[],l,rfl,.nil,h⟩
 |x::a,b,_,.cons (v':=y) hv t=>by obtain⟨l1,l2,rfl,d,c⟩:=VRs.split t;exact⟨y::l1,l2,rfl,.cons hv d,c⟩
theorem VRs.each:∀ {l l':Lh},(∀x∈l,∀v',VR σ x v'->VR σ' x v')->VRs σ l l'->VRs σ' l l'
 |_,_,_,.nil=>.nil
 |_,_,h,.cons hv t=>.cons (h _ (by simp) _ hv) (VRs.each (λx a=>h x (by simp[a])) t)
theorem VRs.eachL:∀ {els l':Lh},(∀x∈els,∀v',VR σ x v'->VR σ' x v')->VRs σ (am els) l'->VRs σ' (am els) l'
 | [],_,_,h=>by cases h;exact .nil
 | x::els,l',h,hv=>by
  rw[aV]at hv ⊢;obtain⟨l1,l2,rfl,d,j⟩:=VRs.split hv;refine VRs.append ?_ (VRs.eachL (λy i=>h y (by simp[i])) j);have f:=h x (by simp);by_cases c:∃ g:Lh,x=.agg ⟨g⟩;obtain⟨g,rfl⟩:=c;have:=f (.agg ⟨l1⟩) (.agg d);cases this with
  |agg h=>exact h
  have e:x.cells.toList=[x]:=by cases x<;>first|rfl|exact absurd ⟨_,rfl⟩ c
  rw[e]at d ⊢;cases d with
  |cons a b=>cases b;exact .cons (f _ a) .nil
theorem HF.move(d:∀ b o,σ.ro b=some o->σ'.ro b=some o){v:Value}(h:HF v):∀ v',VR σ v v'->VR σ' v v':=by
 induction h with
 |scal h=>intro v' a;rw[mf h a];exact eP h σ'
 | dat h c=>
  intro v' a;cases a with
  |func q m=>simp[Fn.still]at m
  |dat k g f e=>exact .dat (d _ _ k) g f (e.eachL c)
  |datN=>exact .datN _
  |datE=>exact .datE _ _ _
  |gp p i j l=>have:=h _ (Hi.2 rfl);cases this with|scal h=>exact absurd h Bool.false_ne_true
  |datP k g f e n=>exact .datP (d _ _ k) g f e (n.eachL c)
 |agg h c=>intro v' a;cases a with|agg h=>exact .agg (h.each c)
 |tuple h c=>intro v' a;cases a with|tuple h=>exact .tuple (h.each c)
 |iface h c=>intro v' a;cases a with|iface _ h=>exact .iface _ (c _ h)
theorem HF.moves(a:∀ b o,σ.ro b=some o->σ'.ro b=some o){l l':Lh}(h:∀ x∈l,HF x)(d:VRs σ l l'):VRs σ' l l':=d.each λx c=>(h x c).move a
mutual
inductive Frz (A:AH):Value->Value->Prop
 |same {v:Value}(h:HF v):Frz A v v
 |slice {B i n k sz:Nat}{c c2 els:Lh}(hl:look A B=some c) (hn:n*sz<=(c.drop i).length) (hk:n<=k) (hc:FrzL A ((c.drop i).take (n*sz)) c2) (he:am els=c2) (hsz:∀ x∈els,x.cells.size=sz) (hlen:els.length=n):Frz A (.slice (some ⟨B,i,none⟩) n k) (.func (.yield sz) ⟨els⟩ ⟨[]⟩)
 |gsl {B o n m sz lo:Nat}{e:TypeId}{els1 tl1 els0 els c2:Lh}(hg:A.t.get B=some (.gro els1 tl1 e)) (h0:els1++tl1=els0) (hG:isG m=true) (hm:gsz m=sz) (hpos:0<sz) (ho:o=lo*sz) (hsz0:∀ x∈els0,x.cells.size=sz) (hle:lo+n<=els0.length) (hc:FrzL A (am ((els0.drop lo).take n)) c2) (he:am els=c2) (hsz:∀ x∈els,x.cells.size=sz) (hlen:els.length=n):Frz A (.slice (some ⟨B,o,none⟩) n m) (.func (.yield sz) ⟨els⟩ ⟨[]⟩)
 |nils (sz:Nat):Frz A (.slice none 0 0) (.func (.yield sz) ⟨[]⟩ ⟨[]⟩)
 |agg {cs cs2:Lh}(h:FrzL A cs cs2):Frz A (.agg ⟨cs⟩) (.agg ⟨cs2⟩)
 |tuple {cs cs2:Lh}(h:FrzL A cs cs2):Frz A (.tuple ⟨cs⟩) (.tuple ⟨cs2⟩)
inductive FrzL (A:AH):Lh->Lh->Prop
 |nil:FrzL A [] []
 |cons {v v2:Value}{l l2:Lh}(h:Frz A v v2) (t:FrzL A l l2):FrzL A (v::l) (v2::l2)
end
variable {A:AH}{E:Env}{fn:Func}{p:Lh->Lj}{P:Program}{σ:Sig}{F:T Value}{v:Value}{Q:Value->AH->Prop}{w:World}
theorem FrzL.same:∀ {l:Lh},(∀x∈l,HF x)->FrzL A l l
 | [],_=>.nil
 |x::l,h=>.cons (.same (h x (by simp))) (FrzL.same λy a=>h y (by simp[a]))
theorem Frz.eq{a:Value}(h:v=a)(b:HF v):Frz A v a:=h▸ .same b
theorem zc(R:Rel P σ A w){B b d k:Nat}{c:Lh}(h:look A B=some c)(a:σ B=some (b,d,k)):
 (∃o,A.t.get B=some o/\o.here=true)/\∃ c' e fz,w.heap[b]? =some (.cells c' e fz)/\∀ (i:Nat) v,c[i]? =some v->∃ v',c'[d+i]? =some v'/\VR σ v v':=by unfold look at h;split at h;rename_i q e f;cases h;obtain⟨r,n,m,g,c',s,u,l,_,j,_⟩:=R.obj B _ f rfl;rw[a]at g;cases g;exact⟨⟨_,f,rfl⟩,c',e,_,l,j⟩;rename_i q e f;cases h;obtain⟨r,n,m,g,c',fz,l,j⟩:=R.obj B _ f rfl;rw[a]at g;cases g;exact⟨⟨_,f,rfl⟩,c',e,fz,l,j⟩;cases h
theorem Frz.ok{σ':Sig}(R:Rel P σ A w)(a4:∀ b o,σ.ro b=some o->σ'.ro b=some o)
 (H:∀ B o x,A.t.get B=some o->o.here=true->σ B=some x->σ'.ro x.1=w.heap[x.1]?) {N:Value}(h:Frz A v N):∀ v',VR σ v v'->VR σ' N v':=by
 refine Frz.rec (motive_1:=λv N _=>∀ v',VR σ v v'->VR σ' N v') (motive_2:=λl l2 _=>∀ Z,VRs σ l Z->VRs σ' l2 Z) ?_ ?_ ?_ ?_ ?_ ?_ ?_ ?_ h;intro v h v' r;exact h.move a4 v' r;intro B i n k u c c2 f hl D hk hc he L g K v' r;have a1:∃ b d J cc,σ B=some (b,d,cc)/\v'=.slice (some ⟨b,d+i,none⟩) n J/\n<=J∨(n=0/\(v'=.slice none 0 0∨∃ a' J,v'=.slice (some a') 0 J)):=by
  cases r with
  |slice _ _ _ h _=>exact⟨_,_,_,_,.inl ⟨h,rfl,hk⟩⟩
  |sliceU _ h D=>exact⟨_,_,_,_,.inl ⟨h,rfl,D⟩⟩
  |sliceV _ _ _ h D=>exact⟨_,_,_,_,.inl ⟨h,rfl,D⟩⟩
  |sliceE a a' J=>exact⟨0,0,0,0,.inr ⟨rfl,.inr ⟨a',J,rfl⟩⟩⟩
  | gs0 B o m a hm=>cases a with
    |none=>exact⟨0,0,0,0,.inr ⟨rfl,.inl rfl⟩⟩
    |some a=>exact⟨0,0,0,0,.inr ⟨rfl,.inr ⟨a,0,rfl⟩⟩⟩
  |gs I o' n' k' m h D hc V hm=>exact⟨_,_,_,_,.inl ⟨h,rfl,D⟩⟩
 obtain⟨b,d,J,cc,⟨z,rfl,a8⟩|⟨rfl,rfl|⟨a',c0,rfl⟩⟩⟩:=a1;obtain⟨⟨o,V,hh⟩,c',e,fz,hw,s⟩:=zc R hl z;have O:=H B o _ V hh z;simp only at O;subst g;refine .dat (O.trans hw) L a8 ?_;rw[he];refine K _ (VRs.of_get ?_ ?_);have:∀ (j:Nat),j<f.length*u->∃ v',c'[d+i+j]? =some v':=by
  intro j y;have a5:i+j<c.length:=by simp at D;omega
  obtain⟨v',G,_⟩:=s (i+j) _ (E' a5);exact⟨v',by rw[Hs];exact G⟩
 simp only[Hh,Jd,Ii];by_cases hz:f.length*u=0;omega;obtain⟨v',G⟩:=this (f.length*u-1) (by omega);have:=(IP.1 G).1;simp at D;omega;intro j v y;rw[GZ]at y;split at y;rename_i M;rw[GV]at y;obtain⟨v',G,h2⟩:=s (i+j) v y;refine⟨v',?_,h2⟩;rw[GZ,Gw M,GV,Hs];simpa using G;cases y;have:f=[]:=Hb g;subst this;exact .datN _;have:f=[]:=Hb g;subst this;exact .datE _ _ _;intro B o n m u I e b4 b5 q f c2 hg hE hG a9 S V C a7 hc he L g K v' r;rcases b8 r hG with⟨rfl,a,rfl⟩|⟨b,d,c,a0,k,z,rfl,D,b3,U⟩;have:f=[]:=Hb g;subst this;cases a with
 |none=>exact .datN _
 |some a=>exact .datE _ _ _
 have a6:I=a0:=by rw[a9]at U;exact Nat.eq_of_mul_eq_mul_right S (V.symm.trans U)
 subst a6;obtain⟨c',l0,h0,g1,g2,g3,g4,g5,g6⟩:=R.at hg rfl z;rw[hE]at g3 g4 g6;have O:=H B _ _ hg rfl z;simp only at O;subst V;subst g;refine .dat (O.trans g1) L D ?_;rw[he];have Y:am ((q.drop I).take f.length)=((am q).drop (I*u)).take (f.length*u):=by rw[bT I C,cd _ (λx hx=>C x (Ig hx))]
 have b0:=ap C;have X:(I+f.length)*u<=q.length*u:=Hr _ a7;rw[Ib]at X;refine K _ (VRs.of_get ?_ ?_);rw[Y];simp only[Hh,Jd,Ii,b0];by_cases hz:q.length*u=0;omega;obtain⟨v',G,_⟩:=g3 (q.length*u-1) _ (E' (by omega));have:=(IP.1 G).1;omega;intro j v y;rw[Y,GZ]at y;split at y;rename_i M;rw[GV]at y;obtain⟨v',G,h2⟩:=g3 (I*u+j) v y;refine⟨v',?_,h2⟩;rw[GZ,Gw M,GV,Hs];simpa using G;cases y;intro u v' r;cases r;exact .datN _;intro cs b1 _ K v' r;cases r with|agg h=>exact .agg (K _ h)
 intro cs b1 _ K v' r;cases r with|tuple h=>exact .tuple (K _ h)
 intro Z r;cases r;exact .nil;intro v N l l2 _ _ a3 a2 Z r;cases r with|cons a b=>exact .cons (a3 _ a) (a2 _ b)
def Con(E:Env)(f:FuncId)(x:ExtF):Prop:=∀ args A v A',x args A=some (v,A')->∀ σ w args',Rel E.P σ A w->Glob E σ->VRs σ args args'->
 Calls E.P f ⟨args'⟩ w (λe w'=>∃ v' σ',e=.returned v'/\VR σ' v v'/\Rel E.P σ' A' w'/\Ext σ A w σ' A' w')
inductive Cons (E:Env):List (FuncId×ExtF)->Prop
 |nil:Cons E []
 |cons {f:FuncId}{x:ExtF}{l:List (FuncId×ExtF)}(h:Con E f x) (t:Cons E l):Cons E ((f,x)::l)
theorem Cons.get:∀ {l:List (FuncId×ExtF)},Cons E l->∀ {f:FuncId}{x:ExtF},oM l f=some x->Con E f x
 |_,.nil,f,x,h=>by simp[oM]at h
 | _,.cons (f:=g) h t,f,x,hx=>by
  simp only[oM]at hx;cases e:Nat.beq f g with
  |true=>rw[e]at hx;simp only[C',osI]at hx;subst hx;obtain rfl:=Gy e;exact h
  |false=>rw[e]at hx;exact t.get hx
def Fin(E:Env)(fn:Func)(Q:Value->AH->Prop):Post:=λex F' A'=>(ex=.normal∨ex=.ret)/\∃ v,cD E A' F' fn.results.toList=some v/\Q v A'
theorem Fin.ret(h:cD E A F fn.results.toList=some v)(k:Q v A):Fin E fn Q .ret F A:=⟨.inr rfl,v,h,k⟩
theorem Fin.normal(h:cD E A F fn.results.toList=some v)(k:Q v A):Fin E fn Q .normal F A:=⟨.inl rfl,v,h,k⟩
theorem km(q:E.Ok){f:FuncId}{c:Code}(j:E.fn f=some fn)(g:fn.body=some c){args:Lh}
 (d:b9 args 0 .leaf=some F) (M:args.length<=fn.ntmps) (G:W E A fn.ntmps c (Fin E fn Q) F A) {a:Lh}(R:Rel E.P σ A w) (D:Glob E σ) (s:VRs σ args a):
 Calls E.P f ⟨a⟩ w (λe w'=>∃ v v' A' σ',e=.returned v'/\Q v A'/\VR σ' v v'/\Rel E.P σ' A' w'/\Ext σ A w σ' A' w'):=by
 have r:=s.length;have m:FR σ F fn.ntmps {tmps:=(⟨a⟩:Array Value)++Array.replicate (fn.ntmps-(⟨a⟩:Array Value).size) undef,defers:=[]}:=by
  refine⟨by simp;omega,λt K b=>?_,rfl⟩;unfold slot at b;rw[dU d t]at b;simp only;rw[Hf,IY];by_cases L:t<args.length;rw[Gw ⟨IM _,by omega⟩,JO]at b;rw[Gw (by simp;omega)];obtain⟨u,J,I⟩:=s.get b;have:(⟨a⟩:Array Value)[t]? =some u:=by simpa using J
  rw[this];exact I;rw[D' (by omega)]at b;cases b
 refine calls_of_wp (q.fn f fn j) g (G σ w _ w ⟨σ,m,R,D,Ext.refl _ _ _⟩ _ λN O A' x w' C l=>?_);obtain⟨k,v,i,H⟩:=C;obtain⟨σ',o,n,_,B⟩:=l;obtain⟨v',z,y⟩:=iv q n o i;have h:x.defers=[]/\∃ u,(results fn x.tmps).run E.P w'=.ok u w'/\(λe w'=>∃ v v' A' σ',e=Ending.returned v'/\Q v A'/\VR σ' v v'/\Rel E.P σ' A' w'/\Ext σ A w σ' A' w') (.returned u) w':=⟨o.defers,v',z,v,v',A',σ',rfl,H,y,n,B⟩;rcases k with rfl|rfl<;>exact h
def dw(p:Lh->Lj):ExtF:=λargs A=>match p args with|some v=>some (v,A)|none=>none
def sigR(σ:Sig):Sig:=⟨λ_=>none,σ.ro,λ_=>False⟩
theorem relR(R:Rel P σ A w):Rel P (sigR σ) ⟨.leaf,0⟩ w:=
 ⟨λB o h=>by simp[T.get]at h,λB c o b x a h=>by simp[T.get]at h,(λB x h=>by cases h),λB h=>rfl,R.ro,λB o x h=>by simp[T.get]at h,λ_ h=>h.elim⟩
def sigB(σ:Sig)(w w':World):Sig:=⟨σ.f,λb=>if b<w.heap.size then σ.ro b else w'.heap[b]?,σ.nl⟩
theorem kl{b:Nat}{o:Obj}(h:w.heap[b]? =some o):b<w.heap.size:=by rcases Hg b w.heap.size with a|a;exact a;rw[He a]at h;cases h
theorem relB{w':World}(R:Rel P σ A w)(h:∀ b,b<w.heap.size->w'.heap[b]? =w.heap[b]?)(j:w.heap.size<=w'.heap.size):Rel P (sigB σ w w') A w':=by
 have f:σ.sub (sigB σ w w'):=⟨λ_ _ h=>h,λb o a=>by show(if b<w.heap.size then σ.ro b else w'.heap[b]?)=some o;rw[Gw (kl (R.ro b o a))];exact a⟩
 refine⟨λB o k m=>?_,R.inj,λB x g=>HN (R.lt B x g) j,R.fresh,λb o a=>?_,λB o x k l g=>?_,R.nl⟩;· rcases R.obj0 B o k m with⟨b,d,c,i,n⟩|i;rotate_left;exact .inr i;refine .inl ⟨b,d,c,i,?_⟩;rw[h b (R.lt B _ i)];exact n.mono f
 have a:(if b<w.heap.size then σ.ro b else w'.heap[b]?)=some o:=a;by_cases e:b<w.heap.size;rw[Gw e]at a;rw[h b e];exact R.ro b o a;rw[D' e]at a;exact a;show(if x.1<w.heap.size then σ.ro x.1 else w'.heap[x.1]?)=none;rw[Gw (R.lt B x g)];exact R.sep B o x k l g
theorem extB{w':World}(R:Rel P σ A w)(h:∀ b,b<w.heap.size->w'.heap[b]? =w.heap[b]?)(c:w.heap.size<=w'.heap.size)(k:w'.os=w.os)(j:w'.tape=w.tape)(i:w'.output=w.output):Ext σ A w (sigB σ w w') A w':=by refine⟨λ_ _=>rfl,GK _,c,λb a _=>h b a,λB o x g f e=>.inr ⟨B,o,x,g,f,e,rfl⟩,λB o x g f e=>.inr ⟨B,o,x,g,f,e,rfl⟩,k,j,i,λb o a=>?_,λb o a=>?_,λ_ _=>Jb⟩;show(if b<w.heap.size then σ.ro b else w'.heap[b]?)=some o;rw[Gw (kl (R.ro b o a))];exact a;have a:(if b<w.heap.size then σ.ro b else w'.heap[b]?)=some o:=a;by_cases d:b<w.heap.size;rw[Gw d]at a;exact .inl a;exact .inr (.inl (by omega))
def Walk(E:Env)(fn:Func)(args:Lh)(v:Value):Prop:=
 ∃c F,fn.body=some c/\Nat.ble args.length fn.ntmps=true/\b9 args 0 .leaf=some F/\W E ⟨.leaf,0⟩ fn.ntmps c (Fin E fn λv2 A2=>Frz A2 v2 v) F ⟨.leaf,0⟩
theorem zU(G:E.Ok)(K:GlOk E){f:FuncId}(r:E.fn f=some fn)
 (h:∀ args v,p args=some v->(∀x∈args,HF x)/\Walk E fn args v):Con E f (dw p):=by
 intro args A v A' j σ w t R L O;unfold dw at j;split at j;rename_i u I;simp only[osI,GC]at j;obtain⟨rfl,rfl⟩:=j;obtain⟨M,c,F,l,m,a,S⟩:=h args u I;refine(km G r l a (H9 m) S (relR R) (λg V h=>L g V h) (HF.moves (σ:=σ) (σ':=sigR σ) (λ_ _ h=>h) M O)).mono λe n N=>?_;obtain⟨Y,y,Z,C,rfl,q,U,z,i⟩:=N;have d:∀ b,b<w.heap.size->n.heap[b]? =w.heap[b]?:=λb m=>i.frame b m λB o x s=>by simp[T.get]at s
 refine⟨y,sigB σ w n,rfl,q.ok z (λb o m=>?_) (λB o x s J j=>?_) y U,relB R d i.size,extB R d i.size i.os i.tape i.output⟩;show(if b<w.heap.size then σ.ro b else n.heap[b]?)=some o;rcases i.rog b o m with k|k|⟨X,H,D,k,_⟩;have k:σ.ro b=some o:=k;rw[Gw (kl (R.ro b o k))];exact k;rw[D' (by omega)];exact z.ro b o m;simp[T.get]at k;show(if x.1<w.heap.size then σ.ro x.1 else n.heap[x.1]?)=n.heap[x.1]?;rcases i.orig2 B o x s J j with k|⟨X,H,D,k,_⟩;rw[D' (by omega)];simp[T.get]at k;cases j
theorem ng{σ:Sig}:∀ {l l':Lh},l.all flat=true->VRs σ l l'->l'=l
 |_,_,_,.nil=>rfl
 |_,_,h,.cons hv t=>by simp only[I3,f']at h;rw[cZ h.1 hv,ng h.2 t]
theorem iJ{σ:Sig}:∀ {l:Lh},l.all flat=true->VRs σ l l
 | [],_=>.nil
 |v::l,h=>by simp only[I3,f']at h;exact .cons (bI h.1 σ) (iJ h.2)
theorem tZ{f:FuncId}(h:Con E f (dw p)){args:Lh}(j:p args=some v)(i:flat v=true)(w:World)(d:Glob E (sig0 w)){a:Lh}(m:VRs (sig0 w) args a):
 Calls E.P f ⟨a⟩ w λe w'=>e=.returned v/\RowKit.Below w.heap.size w w':=by refine(h args ⟨.leaf,0⟩ v ⟨.leaf,0⟩ (by simp[dw,j]) (sig0 w) w a (rel0 E.P w) d m).mono λe w' k=>?_;obtain⟨r,g,rfl,q,s,c⟩:=k;rw[cZ i q];exact⟨rfl,c.os,c.tape,c.output,c.size,λb l=>c.frame b l λB o x n=>by simp[T.get]at n⟩
theorem Con.fewer{f:FuncId}{q:Lh->Lj}(h:Con E f (dw p))(c:∀ args v,q args=some v->p args=some v):Con E f (dw q):=by intro args A v d a;refine h args A v d ?_;unfold dw at a ⊢;split at a;rename_i u b;rw[c _ _ b];exact a;cases a
abbrev _root_.Go.HU:=@Bool.and_self
variable {E:Env}{A:AH}{ρ:Operand->Lj}{ty t t2:TypeId}{x y:Operand}
variable {k:IntKind}{v:Value}
theorem dJ(b:E.sym=true){a:Op}(h:symQ E ρ a=some v):quiet E A ρ ty a=some v:=by unfold quiet;rw[b];simp only[h]
theorem uW(e:E.sym=true){a b:Int}(d:ρ x=some (.int k a))(c:ρ y=some (.int k b))(h:decide (b=0)=false):quiet E A ρ ty (.binOp .quo t x y t2)=some (.int k (k.wrap (a.tdiv b))):=by refine dJ e ?_;simp[symQ,d,c,nO,symI,dm,h]
theorem uV(e:E.sym=true){a b:Int}(d:ρ x=some (.int k a))(c:ρ y=some (.int k b))(h:decide (b=0)=false):quiet E A ρ ty (.binOp .rem t x y t2)=some (.int k (a.tmod b)):=by refine dJ e ?_;simp[symQ,d,c,nO,symI,dm,h]
theorem uZ(g:E.sym=true){sz:Nat}{els:Lh}{n:Int}{e:TypeId}{a:TypeInfo}(d:ρ x=some (.func (.yield sz) ⟨els⟩ ⟨[]⟩))(c:ρ y=some (.int k n))(f:und E t=some (.slice e))(h:E.ti e=some a)(b:(Nat.beq a.size sz&&Nat.blt 0 sz)=true)(j:0<=n)(i:n<els.length):
 quiet E A ρ ty (.indexAddr t x y)=some (.func (.yield sz) ⟨els⟩ ⟨[.int .i64 n.toNat,.int .i64 (0:Nat)]⟩):=by refine dJ g ?_;simp only[symQ,d,c,f,h,b,j,i,Ia,HU,C']
theorem tb(c:E.sym=true){sz:Nat}{els:Lh}{i j:Int}{u:Value}(a:ρ x=some (.func (.yield sz) ⟨els⟩ ⟨[.int .i64 i,.int .i64 j]⟩))(d:nth els i.toNat=some u)(b:ldat E t [u] 0 j.toNat=some v):quiet E A ρ ty (.load t x)=some v:=by refine dJ c ?_;simp only[symQ,a];rw[<-b];simp[ldat,d,nth]
theorem OL.eff{a:bV}{ops:List Oper}{n:Nat}{o:Oper}{l:List Oper}{F b:T Value}{A A':AH}{K:T Value->AH->Prop}(d:cw ops F o=some true)(e:AM.quiet E A (ev E F) o.type o.op=none)(g:bX E (ev E F) o.op=none)(c:c8 a E A (ev E F) o.op=some (v,A'))(f:put n F o.dst v=some b)(k:OL a E ops n l b A' K):OL a E ops n (o::l) F A K:=
 OL.op (by unfold op1;rw[d];simp only[opA,e,g,c,f]) k
end
end Go.AM
namespace Go.AM
open Go.RowKit Go.ChangeShapes
theorem gA{H:Type}{enc:TypeId×Value->H}{P:Program}(g:laidOutB P=true){W j:World}(i:Below W.heap.size W j):
 ∀{ts:List TypeId}{vs:Lh}{e:List (DataW H)}{c:List MemPlace},(ts.all λt=>P.readableRec t&&decide (t<P.types.size))=true->DataW.TrodAll enc P W 0 (λ_=>true) true ts vs e c->(∀x∈c,x.block<W.heap.size)->
 DataW.TrodAll enc P j 0 (λb=>decide (b<W.heap.size)) true ts vs e c
 | [],vs,e,c,_,h,_=>by obtain⟨rfl,rfl,rfl⟩:=trodAll_nil h;exact trodAll_mk0
 |t::ts,vs,e,c,hr,h,hlt=>by simp only[I3,f',GQ]at hr;obtain⟨v,k,d,n,p,q,rfl,rfl,rfl,m,l⟩:=trodAll_cons h;have a:=Below.trod g hr.1.1 hr.1.2 m i λx f=>hlt x (by simp[f]);have b:=gA g i (ts:=ts) hr.2 l λx f=>hlt x (by simp[f]);exact⟨p,q,a,b,rfl⟩
theorem law_post{H:Type}{enc:TypeId×Value->H}{P:Program}{f:Func}{s:ChangeSpec}{d a:Bool}{W n:World}{args:Array Value}{i:List (DataW H)}{c:List MemPlace}
 (z:laidOutB P=true) (w:(f.params.toList.all λt=>P.readableRec t&&decide (t<P.types.size))=true) (o:s.vars=[]) (u:DataW.Whole enc P f.params.toList s.vars false W args.toList i [] c)
 (k:s.fn H (i++[])={results:=[.lit (.bool true)],args:=i}) (e:∀ (b:Nat) (sp:Nat->Bool) (hd:Bool),DataW.TrodAll enc P n b sp hd f.resultTypes.toList ((Value.bool true).resultList f.resultTypes.size) [.lit (.bool true)] [])
 (r:Below W.heap.size W n):s.post enc P f false d a false W args (.bool true) n:=by
 have g:=u;obtain⟨p,q,m,v,rfl,_,_⟩:=u;have l:∀ x∈p++q,x.block<W.heap.size:=λx j=>g.lt x j;have y:q=[]:=by rw[o]at v;exact(trodVars_none v).2
 subst y;refine⟨i,[],p++[],[],p,[],g,?_,?_,?_,r.frame _,λh=>by cases h⟩;rw[k];exact e _ _ _;rw[k];exact gA z r w m λx j=>l x (by simp[j]);rw[k,o];rfl
end Go.AM
namespace Go.AM
noncomputable section
abbrev _root_.Go.Ht:=@Nat.add_zero
abbrev _root_.Go.IZ:=@List.set_append_right
mutual
inductive RV (ρ:Nat->Lk):Value->Value->Prop
 |hf {v:Value}(h:HF v):RV ρ v v
 |ptr {B B' i:Nat}(h:ρ B'=some B):RV ρ (.pointer (some ⟨B,i,none⟩)) (.pointer (some ⟨B',i,none⟩))
 |slice {B B' i n k:Nat}(h:ρ B'=some B):RV ρ (.slice (some ⟨B,i,none⟩) n k) (.slice (some ⟨B',i,none⟩) n k)
 |sliceE {a a':Addr}:RV ρ (.slice (some a) 0 (unk+2)) (.slice (some a') 0 (unk+2))
 |nilG {B' m:Nat}(hm:unk+3<=m):RV ρ (.slice none 0 0) (.slice (some ⟨B',0,none⟩) 0 m)
 |map {B B':Nat}(h:ρ B'=some B):RV ρ (.map (some B)) (.map (some B'))
 |func {fn:Fn}{xs ys xs' ys':Lh}(hf:Fn.still fn=true) (hx:RVs ρ xs xs') (hy:RVs ρ ys ys'):RV ρ (.func fn ⟨xs⟩ ⟨ys⟩) (.func fn ⟨xs'⟩ ⟨ys'⟩)
 |iface {t:TypeId}{v v':Value}(h:RV ρ v v'):RV ρ (.iface t v) (.iface t v')
 |agg {xs xs':Lh}(h:RVs ρ xs xs'):RV ρ (.agg ⟨xs⟩) (.agg ⟨xs'⟩)
 |tuple {xs xs':Lh}(h:RVs ρ xs xs'):RV ρ (.tuple ⟨xs⟩) (.tuple ⟨xs'⟩)
inductive RVs (ρ:Nat->Lk):Lh->Lh->Prop
 |nil:RVs ρ [] []
 |cons {v v':Value}{l l':Lh}(h:RV ρ v v') (t:RVs ρ l l'):RVs ρ (v::l) (v'::l')
end
variable {A A0:AH}{o o1:AObj}{E:Env}{n:Nat}{ρ:Nat->Lk}{σ:Sig}{F:T Value}
def sigT(ρ:Nat->Lk)(σ:Sig):Sig:=⟨λB=>(ρ B).bind σ.f,σ.ro,λB'=>∃ B,ρ B'=some B/\σ.nl B⟩
theorem dq{B B':Nat}{x:Nat×Nat×Nat}(h:ρ B'=some B)(a:σ B=some x):(sigT ρ σ) B'=some x:=by show(ρ B').bind σ.f=some x;rw[h];exact a
theorem bR{B':Nat}{x:Nat×Nat×Nat}(h:(sigT ρ σ) B'=some x):∃ B,ρ B'=some B/\σ B=some x:=by
 have h:(ρ B').bind σ.f=some x:=h;cases a:ρ B' with
 |none=>rw[a]at h;cases h
 |some B=>rw[a]at h;exact⟨B,rfl,h⟩
theorem RV.move{v j:Value}(h:RV ρ v j):∀ v',VR σ v v'->VR (sigT ρ σ) j v':=by
 refine RV.rec (motive_1:=λv j _=>∀ v',VR σ v v'->VR (sigT ρ σ) j v') (motive_2:=λl l1 _=>∀ r,VRs σ l r->VRs (sigT ρ σ) l1 r) ?_ ?_ ?_ ?_ ?_ ?_ ?_ ?_ ?_ ?_ ?_ ?_ h;intro v h v' c;exact HF.move (σ:=σ) (σ':=sigT ρ σ) (λ_ _ h=>h) h v' c;intro B y i h v' c;cases c with|ptr i d=>exact .ptr i (dq h d)
 intro B y i n k h v' c;cases c with
 |slice _ _ _ d J=>exact .slice _ _ _ (dq h d) J
 |sliceU _ d e=>exact .sliceU _ (dq h d) e
 |sliceV _ _ _ d e=>exact .sliceV _ _ _ (dq h d) e
 |sliceE=>exact .sliceE _ _ _
 |gs0 _ _ _ a f=>exact .gs0 _ _ _ a f
 |gs C M N D m d e K I f=>exact .gs C _ _ D _ (dq h d) e K I f
 intro a R v' c;generalize J:unk+2=k at c;generalize e:(0:Nat)=n at c;cases c with
 |slice _ _ _ d O=>omega
 |sliceU _ d e=>omega
 |sliceV _ _ _ d e=>omega
 |sliceE=>exact .sliceE _ _ _
 |gs0 _ o m a f=>omega
 |gs C M N D m d e K I f=>omega
 intro y m f v' c;cases c;exact .gs0 _ _ _ _ f;intro B y h v' c;cases c with|map d=>exact .map (dq h d)
 intro Q z P p L g H G u s v' c;cases c with
 |func _ g H G=>exact .func _ g (u _ H) (s _ G)
 |dat=>simp[Fn.still]at g
 |datN=>simp[Fn.still]at g
 |datE=>simp[Fn.still]at g
 |gp=>simp[Fn.still]at g
 |datP=>simp[Fn.still]at g
 intro t v j _ q v' c;cases c with|iface _ h=>exact .iface _ (q _ h)
 intro z p _ q v' c;cases c with|agg h=>exact .agg (q _ h)
 intro z p _ q v' c;cases c with|tuple h=>exact .tuple (q _ h)
 intro r c;cases c;exact .nil;intro v j l l1 _ _ x w r c;cases c with|cons a b=>exact .cons (x _ a) (w _ b)
theorem RVs.get:∀ {l l1:Lh},RVs ρ l l1->∀ {i:Nat}{v1:Value},l1[i]? =some v1->∃ v,l[i]? =some v/\RV ρ v v1
 |_,_,.nil,i,v,h=>by simp at h
 | _,_,.cons hv t,i,v,h=>by
  cases i with
  |zero=>simp at h;subst h;exact⟨_,by simp,hv⟩
  |succ i=>simp at h;obtain⟨a,c,b⟩:=t.get h;exact⟨a,by simpa using c,b⟩
theorem RVs.hf:∀ {l:Lh},(∀x∈l,HF x)->RVs ρ l l
 | [],_=>.nil
 |x::l,h=>.cons (.hf (h x (by simp))) (RVs.hf λy a=>h y (by simp[a]))
inductive REs (ρ:Nat->Lk):Lc->Lc->Prop
 |nil:REs ρ [] []
 |cons {k v v1:Value}{b:Nat}{l l1:Lc}(h:RV ρ v v1) (t:REs ρ l l1):REs ρ ((k,v,b)::l) ((k,v1,b)::l1)
theorem REs.move:∀ {l l1:Lc},REs ρ l l1->∀ {l'},ERs σ l l'->ERs (sigT ρ σ) l1 l'
 |_,_,.nil,_,.nil=>.nil
 |_,_,.cons h t,_,.cons he ht=>.cons ⟨he.1,h.move _ he.2.1,he.2.2⟩ (t.move ht)
inductive RO (ρ:Nat->Lk):AObj->AObj->Prop
 |cells {c c1:Lh}{e:TypeId}(h:RVs ρ c c1):RO ρ (.cells c e) (.cells c1 e)
 |ro {c c1:Lh}{e:TypeId}(h:RVs ρ c c1):RO ρ (.ro c e) (.ro c1 e)
 |map {es es1:Lc}{k:Nat}(h:REs ρ es es1):RO ρ (.map es k) (.map es1 k)
 |gro {els tl:Lh}{e:TypeId}(h:∀ x∈am (els++tl),HF x):RO ρ (.gro els tl e) (.gro (glue els tl) [] e)
 |arr {els rest rest1:Lh}{n:Nat}{e:TypeId}(h:∀ x∈els,HF x) (k:RVs ρ rest rest1):RO ρ (.arr els rest n e) (.arr els rest1 n e)
 |toArr {els rest rest1:Lh}{n:Nat}{e:TypeId}(hl:els.length=n) (h:∀ x∈els,HF x) (k:RVs ρ rest rest1):RO ρ (.cells (els++rest) e) (.arr els rest1 n e)
 |dead:RO ρ .dead .dead
theorem RO.own(h:RO ρ o o1):o1.own=o.own:=by cases h<;>rfl
theorem RO.nilOk(h:RO ρ o o1):o1.nilOk=o.nilOk:=by cases h<;>rfl
theorem RO.here(h:RO ρ o o1):o1.here=o.here:=by cases h<;>rfl
theorem RVs.app:∀ {l l1 r a:Lh},RVs ρ l l1->RVs ρ r a->RVs ρ (l++r) (l1++a)
 |_,_,_,_,.nil,h=>h
 |_,_,_,_,.cons h t,k=>.cons h (t.app k)
theorem RO.move{P:Program}{ob:Option Obj}{d cp:Nat}(h:RO ρ o o1)(p:OR P σ ob d cp o):OR P (sigT ρ σ) ob d cp o1:=by
 cases h with
 |cells h=>obtain⟨l,m,q,b,f,e,r⟩:=p;refine⟨l,m,q,b,f,λi v1 a=>?_,r⟩;obtain⟨v,j,g⟩:=h.get a;obtain⟨c,t,s⟩:=e i v j;exact⟨c,t,g.move _ s⟩
 |ro h=>obtain⟨l,z,b,e⟩:=p;refine⟨l,z,b,λi v1 a=>?_⟩;obtain⟨v,j,g⟩:=h.get a;obtain⟨c,t,s⟩:=e i v j;exact⟨c,t,g.move _ s⟩
 |map h=>obtain⟨w,b,f⟩:=p;exact⟨w,b,h.move f⟩
 |gro h=>obtain⟨l,m,q,b,f,e,r⟩:=p;refine⟨l,m,q,b,f,λi v u=>?_,by rw[cb,GG];exact r⟩;rw[cb,GG]at u;obtain⟨c,j,g⟩:=e i v u;exact⟨c,j,HF.move (σ:=σ) (σ':=sigT ρ σ) (λ_ _ h=>h) (h v (GM u)) c g⟩
 |arr h k=>obtain⟨⟨l,m,q,b,f,e,r⟩,y⟩:=p;refine⟨⟨l,m,q,b,f,λi v1 a=>?_,r⟩,y⟩;obtain⟨v,j,g⟩:=((RVs.hf h).app k).get a;obtain⟨c,t,s⟩:=e i v j;exact⟨c,t,g.move _ s⟩
 |toArr x h k=>obtain⟨l,m,q,b,f,e,r⟩:=p;refine⟨⟨l,m,q,b,f,λi v1 a=>?_,r⟩,x⟩;obtain⟨v,j,g⟩:=((RVs.hf h).app k).get a;obtain⟨c,t,s⟩:=e i v j;exact⟨c,t,g.move _ s⟩
 |dead=>exact p
def ofL{α :Type}:List (Nat× α)->T α ->Option (T α)
 | [],t=>some t
 | x::l,t=>match T.set 64 t x.1 x.2 with
   |some t'=>ofL l t'
   |none=>none
theorem dy{c :Type}:∀ {l:List (Nat× c)}{t b:T c},ofL l t=some b->∀ {k:Nat}{x: c},b.get k=some x->(k,x)∈l∨t.get k=some x
 | [],t,b,h,k,x,hx=>by simp only[ofL,osI]at h;subst h;exact .inr hx
 |y::l,t,b,h,k,x,hx=>by simp only[ofL]at h;split at h;rename_i f d;rcases dy h hx with a|a;exact .inl (by simp[a]);rw[Hp d]at a;split at a;rename_i e;cases a;subst e;exact .inl (by simp);exact .inr a;cases h
def back:Ld->Nat->Lk
 | [],_=>none
 |x::m,B=>bif Nat.beq B x.1 then some x.2 else back m B
def bq(nx:Nat):Ld->Bool
 | []=>true
 |x::m=>Nat.blt x.1 nx&&(m.all λy=> !Nat.beq x.2 y.2)&&bq nx m
theorem aX:∀ {m:Ld}{B' B:Nat},back m B'=some B->(B',B)∈m
 |x::m,B',B,h=>by simp only[back,beq_eq]at h;by_cases e:B'=x.1;simp only[e,Ia,C',osI]at h;subst h;subst e;simp;simp only[e,It,GT]at h;exact GS _ (aX h)
theorem cB{nx:Nat}:∀ {m:Ld},bq nx m=true->∀ {B' B:Nat},(B',B)∈m->B'<nx
 |x::m,h,B',B,hm=>by simp only[bq,f',blt_eq,GQ]at h;rcases GI.1 hm with e|e;subst e;exact h.1.1;exact cB h.2 e
theorem dp{nx:Nat}:∀ {m:Ld},bq nx m=true->∀ {d B2 B:Nat},back m d=some B->back m B2=some B->d=B2
 | x::m,h,d,B2,B,h1,h2=>by
  simp only[bq,f',blt_eq,GQ]at h;have a:∀ y∈m,x.2≠y.2:=λy f e=>by have:=Hc.1 h.1.2 y f;simp[beq_eq,e]at this
  simp only[back,beq_eq]at h1 h2;by_cases c:d=x.1;by_cases b:B2=x.1;rw[c,b];simp only[c,Ia,C',osI]at h1;simp only[b,It,GT]at h2;exact absurd h1 (a _ (aX h2));by_cases b:B2=x.1;simp only[b,Ia,C',osI]at h2;simp only[c,It,GT]at h1;exact absurd h2 (a _ (aX h1));simp only[c,b,It,GT]at h1 h2;exact dp h.2 h1 h2
inductive RenF (m:Ld) (F:T Value):List (Nat×Value)->Prop
 |nil:RenF m F []
 |cons {t:Nat}{v v1:Value}{l:List (Nat×Value)}(h:F.get t=some v) (r:RV (back m) v v1) (k:RenF m F l):RenF m F ((t,v1)::l)
inductive RenH (m:Ld) (A:AH):List (Nat×AObj)->Prop
 |nil:RenH m A []
 |cons {B B':Nat}{o o1:AObj}{l:List (Nat×AObj)}(hm:back m B'=some B) (h:A.t.get B=some o) (r:RO (back m) o o1) (k:RenH m A l):RenH m A ((B',o1)::l)
theorem RenF.mem{m:Ld}:∀ {l:List (Nat×Value)},RenF m F l->∀ {t:Nat}{v1:Value},(t,v1)∈l->∃ v,F.get t=some v/\RV (back m) v v1
 |_,.cons h r k,t,v1,hm=>by rcases GI.1 hm with e|e;cases e;exact⟨_,h,r⟩;exact k.mem e
theorem RenH.mem{m:Ld}:∀ {l:List (Nat×AObj)},RenH m A l->∀ {B':Nat}{o1:AObj},(B',o1)∈l->∃ B o,back m B'=some B/\A.t.get B=some o/\RO (back m) o o1
 |_,.cons hB h r k,B',o1,hm=>by rcases GI.1 hm with e|e;cases e;exact⟨_,_,hB,h,r⟩;exact k.mem e
def Turns(E:Env)(A0:AH)(n:Nat)(F:T Value)(A:AH)(F1:T Value)(A1:AH):Prop:=∀ σ0 w0 a w,At E σ0 A0 w0 n F A a w->At E σ0 A0 w0 n F1 A1 a w
theorem Turns.refl:Turns E A0 n F A F A:=λ_ _ _ _ h=>h
theorem Turns.renK{F1:T Value}{t1:T AObj}(a0:GlOk E)(m:Ld)(Y:List (Nat×Value))(V:List (Nat×AObj))(nx:Nat)
 (y:∀ B,B<A0.next->back m B=some B) (K:A0.next<=nx) (M:bq nx m=true) (hf:ofL Y .leaf=some F1) (hh:ofL V .leaf=some t1) (rf:RenF m F Y) (rh:RenH m A V):Turns E A0 n F A F1 ⟨t1,nx⟩:=by
 intro H w0 a w ⟨σ,P,R,hg,X⟩;have O:∀ {t:Nat}{v1:Value},F1.get t=some v1->∃ v,F.get t=some v/\RV (back m) v v1:=λh=>by rcases dy hf h with h|h;exact rf.mem h;simp[T.get]at h
 have k:∀ {l:Nat}{o1:AObj},t1.get l=some o1->∃ B o,back m l=some B/\A.t.get B=some o/\RO (back m) o o1:=λh=>by rcases dy hh h with h|h;exact rh.mem h;simp[T.get]at h
 refine⟨sigT (back m) σ,⟨P.size,λt u hu=>?_,P.defers⟩,⟨?_,?_,?_,?_,?_,?_,λl h=>?_⟩,(λg cs h=>hg g cs h),⟨?_,?_,X.size,X.frame,?_,?_,X.os,X.tape,X.output,X.sro,X.rog,λB G=>?_⟩⟩;obtain⟨v,i,j⟩:=O hu;exact j.move _ (P.val t v i);intro l o1 h z;obtain⟨B,o,i,j,q⟩:=k h;rcases R.obj0 B o j (by rw[<-q.here];exact z)with⟨b,d,c,U,S⟩|⟨U,S⟩;exact .inl ⟨b,d,c,dq i U,q.move S⟩;exact .inr ⟨q.nilOk.trans U,B,i,S⟩;intro B1 B2 o1 o2 x1 x2 i j s N L J I;obtain⟨C1,p1,a1,a2,a3⟩:=k i;obtain⟨C2,p2,b1,b2,b3⟩:=k j;obtain⟨D1,p,C⟩:=bR J;obtain⟨D2,Z,e2⟩:=bR I;rw[a1]at p;cases p;rw[b1]at Z;cases Z;exact R.inj C1 C2 p1 p2 x1 x2 a2 b2 (by rw[<-a3.own];exact s) (by rw[<-b3.here];exact N) (λe=>by subst e;exact L (dp M a1 b1)) C e2;intro l x r;obtain⟨B,_,j⟩:=bR r;exact R.lt B x j;intro l Q;show(back m l).bind σ.f=none;cases hb:back m l with
 |none=>rfl
 |some B=>exact absurd (cB M (aX hb)) (by simp at Q;omega)
 exact R.ro;intro l o1 x h s r;obtain⟨B,o,i,j,q⟩:=k h;obtain⟨D,p,C⟩:=bR r;rw[i]at p;cases p;exact R.sep B o x j (by rw[<-q.own];exact s) C;obtain⟨B,i,j⟩:=h;refine⟨cB M (aX i),?_⟩;show(back m l).bind σ.f=none;rw[i];exact(R.nl B j).2;intro B G;show(back m B).bind σ.f=H.f B;rw[y B G];exact X.sig B G;exact K;intro l o1 x h s r;obtain⟨B,o,i,j,q⟩:=k h;obtain⟨D,p,C⟩:=bR r;rw[i]at p;cases p;exact X.orig B o x j (by rw[<-q.own];exact s) C;intro l o1 x h s r;obtain⟨B,o,i,j,q⟩:=k h;obtain⟨D,p,C⟩:=bR r;rw[i]at p;cases p;exact X.orig2 B o x j (by rw[<-q.here];exact s) C;refine Iff.trans ⟨λ⟨l,i,j⟩=>?_,λh=>⟨B,y B G,h⟩⟩ (X.snl B G);rw[y B G]at i;cases i;exact j
theorem Turns.ren{F1:T Value}{t1:T AObj}(c:GlOk E)(j:A0.next=0)(m:Ld)(b:List (Nat×Value))(a:List (Nat×AObj))(nx:Nat)
 (f:bq nx m=true) (h:ofL b .leaf=some F1) (g:ofL a .leaf=some t1) (e:RenF m F b) (d:RenH m A a):Turns E A0 n F A F1 ⟨t1,nx⟩:=
 Turns.renK c m b a nx (λB i=>by omega) (by omega) f h g e d
section
variable {E:Env}{A0:AH}{n:Nat}{Q:Post}{F F1:T Value}{A A1:AH}
variable {A:AH}{els:Lh}{B m:Nat}{P:Program}{σ:Sig}{t1:T AObj}{e:TypeId}{w:World}
theorem Turns.trans{g:AH}{f:T Value}(h:Turns E A0 n F A F1 A1)(k:Turns E A0 n F1 A1 f g):Turns E A0 n F A f g:=fun b d a w c=>k b d a w (h b d a w c)
theorem Turns.nilSlot{t:Nat}(l:unk+3<=m)(j:F.get t=some (.slice none 0 0))(p:T.set 64 F t (.slice (some ⟨A.next,0,none⟩) 0 m)=some F1)(k:T.set FU A.t A.next (.gro [] [] e)=some t1):Turns E A0 n F A F1 ⟨t1,A.next+1⟩:=by
 intro g q a w ⟨σ,f,R,o,X⟩;obtain⟨i,h⟩:=Rel.nilGro R k;have c:=dR σ A.next
 refine⟨nilU σ A.next,⟨f.size,λd v b=>?_,f.defers⟩,i,o.sub c,X.trans h⟩;have b:F1.get d=some v:=b;rw[Hp p]at b;split at b;rename_i e;subst e;cases b;have:=f.val d _ j;generalize a.tmps.getD d undef=y at this ⊢;cases this;exact .gs0 _ _ _ none l;exact(f.val d v b).mono c
def sigZ(σ:Sig)(w:World)(b:Nat):Sig:=⟨σ.f,λb'=>if b'=b then w.heap[b]? else σ.ro b',σ.nl⟩
theorem Rel.freeze(R:Rel P σ A w){f b d c:Nat}{o:AObj}{t:T AObj}(I:A.t.get B=some o)(H:o.own=true)(p:σ B=some (b,d,c))(U:T.set f A.t B .dead=some t):
 σ.sub (sigZ σ w b)/\Rel P (sigZ σ w b) ⟨t,A.next⟩ w/\Ext σ A w (sigZ σ w b) ⟨t,A.next⟩ w:=by
 have V:=Hp U;have u:σ.ro b=none:=R.sep B o _ I H p;have j:σ.sub (sigZ σ w b):=⟨λ_ _ h=>h,λl a h=>by show(if l=b then w.heap[b]? else σ.ro l)=some a;rw[D' (λe=>by subst e;rw[u]at h;cases h)];exact h⟩
 have i:∀ {g:Nat}{a:AObj},t.get g=some a->a.here=true->g≠B/\A.t.get g=some a:=fun {g a} h D=>by rw[V]at h;by_cases e:g=B;rw[Gw e]at h;cases h;simp[AObj.here]at D;rw[D' e]at h;exact⟨e,h⟩
 refine⟨j,⟨λg a h D=>?_,λB1 B2 N M x L z s v y r C G=>?_,R.lt,R.fresh,λl a h=>?_,λg a x h q C=>?_,R.nl⟩,⟨λ_ _=>rfl,GK _,GK _,λ_ _ _=>rfl,λg a x z s J=>.inr ⟨g,a,x,(i z (AObj.here_of_own s)).2,s,J,rfl⟩,λg a x z s J=>.inr ⟨g,a,x,(i z s).2,s,J,rfl⟩,rfl,rfl,rfl,λl a h=>j.ro l a h,λl a h=>?_,λ_ _=>Jb⟩⟩;rcases R.obj0 g a (i h D).2 D with⟨Z,X,Y,S,O⟩|k;exact .inl ⟨Z,X,Y,S,O.mono j⟩;exact .inr k;exact R.inj B1 B2 N M x L (i z (AObj.here_of_own v)).2 (i s y).2 v y r C G;have h:(if l=b then w.heap[b]? else σ.ro l)=some a:=h;split at h;rename_i e;subst e;exact h;exact R.ro l a h;obtain⟨r,K⟩:=i h (AObj.here_of_own q);show(if x.1=b then w.heap[b]? else σ.ro x.1)=none;rw[D' (λe=>R.inj B g o a _ _ I K H (AObj.here_of_own q) (λe=>r e.symm) p C e.symm)];exact R.sep g a x K q C;have h:(if l=b then w.heap[b]? else σ.ro l)=some a:=h;split at h;rename_i e;exact .inr (.inr ⟨B,o,_,I,H,p,e.symm⟩);exact .inl h
theorem E3(R:Rel P σ A w){B2 n k sz:Nat}{c2:Lh}{e2:TypeId}(l:A.t.get B2=some (.cells c2 e2))(U:k<unk)(s:n<=k)
 (j:els.length=n) (q:∀ x∈els,x.cells.size=sz) (J:am els=c2.take (n*sz)) (S:n*sz<=c2.length) (p:T.set FU A.t B2 .dead=some t1):
 ∃σ',Rel P σ' ⟨t1,A.next⟩ w/\Ext σ A w σ' ⟨t1,A.next⟩ w/\∀ v',VR σ' (.slice (some ⟨B2,0,none⟩) n k) v'->VR σ' (.func (.yield sz) ⟨els⟩ ⟨[]⟩) v':=by
 obtain⟨b,d,c,f,L,D,I,K,Y,C,X,V⟩:=R.obj B2 _ l rfl;obtain⟨g,N,M⟩:=R.freeze l rfl f p;refine⟨_,N,M,λv' G=>?_⟩;have o:v'=.slice (some ⟨b,d+0,none⟩) n k:=by
  cases G with
  |slice _ _ _ h _=>have h:σ B2=_:=h;rw[f]at h;cases h;rfl
  |sliceU _ h _=>omega
  |sliceV _ _ _ h _=>omega
  |sliceE=>omega
  |gs0 _ _ _ _ H=>omega
  |gs _ _ _ _ _ _ _ _ _ H=>omega
 subst o;subst j;have r:(sigZ σ w b).ro b=some (.cells L e2 (D,I)):=by show(if b=b then w.heap[b]? else σ.ro b)=_;rw[Gw rfl];exact K
 refine .dat r q s ?_;rw[J];refine VRs.mono g (VRs.of_get ?_ λi v a=>?_);simp only[Hh,Jd,Ii];by_cases O:els.length*sz=0;omega;obtain⟨u,z,_⟩:=C (els.length*sz-1) _ (E' (by omega));have:=(IP.1 z).1;omega;rw[GZ]at a;split at a;rename_i y;obtain⟨u,z,l⟩:=C i v a;refine⟨u,?_,l⟩;rw[GZ,Gw y,GV];simpa using z;cases a
theorem wM(R:Rel P σ A w){B2 n:Nat}{tl:Lh}{e2:TypeId}(K:A.t.get B2=some (.gro els tl e2))(J:isG m=true)(G:P.cellsOf e2=gsz m)
 (j:(els++tl).length=n) (l:T.set FU A.t B2 .dead=some t1):
 ∃σ',Rel P σ' ⟨t1,A.next⟩ w/\Ext σ A w σ' ⟨t1,A.next⟩ w/\∀ v',VR σ' (.slice (some ⟨B2,0,none⟩) n m) v'->VR σ' (.func (.yield (gsz m)) ⟨els++tl⟩ ⟨[]⟩) v':=by
 have g:∀ σ':Sig,∀a,(els++tl).length=0->VR σ' (.func (.yield (gsz m)) ⟨els++tl⟩ ⟨[]⟩) (.slice a 0 0):=fun σ' a h=>by
  rw[Hb h];cases a with
  |none=>exact .datN _
  |some a=>exact .datE _ _ _
 rcases R.obj0 B2 _ K rfl with⟨b,d,c,q,ca,L,O,Y,g2,X,x,V,U⟩|⟨_,C⟩;obtain⟨r,R1,X1⟩:=R.freeze K rfl q l;refine⟨_,R1,X1,λv' p=>?_⟩;rcases b8 p J with⟨H,a,o⟩|⟨b',d',c',y,k,f,o,N,S,Z⟩;rw[o];exact g _ a (j.trans H);have f:σ B2=_:=f;rw[q]at f;cases f;have z:(sigZ σ w b).ro b=some (.cells ca e2 (L,O)):=by show(if b=b then w.heap[b]? else σ.ro b)=_;rw[Gw rfl];exact Y
 rw[o,<-j];rw[G]at x V;refine .dat z x (by omega) ?_;refine VRs.mono r (VRs.of_get ?_ λi v s=>?_);rw[ap x];have I:(els++tl).length*gsz m<=c*gsz m:=Hr _ U;simp only[Hh,Jd,Ii];omega;obtain⟨u,M,p⟩:=X i v s;refine⟨u,?_,p⟩;have D:i<(els++tl).length*gsz m:=by have:=(GE.1 s).1;rwa[ap x]at this
 rw[GZ,Gw D,GV,Ht];simpa using M;refine⟨σ,R.dead l,Ext.dead l,λv' p=>?_⟩;rcases b8 p J with⟨H,a,o⟩|⟨b',d',c',y,k,f,o,N,S,Z⟩;rw[o];exact g _ a (j.trans H);rw[(R.nl B2 C).2]at f;cases f
theorem sZ(R:Rel P σ A w){p:Nat}{tl a:Lh}{v o:Value}{t:T AObj}(L:A.t.get B=some (.gro els tl e))(J:(am tl)[p]? =some v)(H:∀ v',VR σ v v'->VR σ o v')(K:am a=(am tl).set p o)
 (k:∀ x∈a,x.cells.size=P.cellsOf e) (g:a.length=tl.length) (I:T.set FU A.t B (.gro els a e)=some t):Rel P σ ⟨t,A.next⟩ w/\Ext σ A w σ ⟨t,A.next⟩ w:=
 Rel.retell (o2:=.gro els a e) R L I rfl rfl rfl (λS N O h=>by obtain⟨M,j,l,C,z,y,s,r,q⟩:=h;refine⟨M,j,l,C,z,λi u c=>?_,λx f=>?_,r,by rw[Gx,g,<-Gx];exact q⟩;rw[bz,K,G0]at c;have b:=λi v h=>y i v h;simp only[bz,G0]at b;split at c;rename_i d;exact b i u (by rw[Gw d];exact c);rename_i d;rw[Hq]at c;split at c;rename_i e;split at c;cases c;obtain⟨v',G,D⟩:=b i v (by rw[D' d,<-e];exact J);exact⟨v',G,H v' D⟩;cases c;exact b i u (by rw[D' d];exact c);rcases GW.1 f with f|f;exact s x (List.mem_append_left _ f);exact k x f)
theorem Turns.nilCell{j:Nat}{k:TypeId}{c:Lh}{t2:T AObj}(G:unk+3<=m)(K:A.t.get B=some (.cells c k))(C:c[j]? =some (.slice none 0 0))(D:T.set FU A.t B (.cells (c.set j (.slice (some ⟨A.next,0,none⟩) 0 m)) k)=some t1)(g:T.set FU t1 A.next (.gro [] [] e)=some t2):
 Turns E A0 n F A F ⟨t2,A.next+1⟩:=by
 intro o S a w ⟨σ,J,R,I,X⟩;obtain⟨u,s⟩:=Rel.retell (o2:=.cells (c.set j (.slice (some ⟨A.next,0,none⟩) 0 m)) k) R K D rfl rfl rfl (λb d U h=>by obtain⟨O,x,H,N,M,l,L⟩:=h;refine⟨O,x,H,N,M,λi v f=>?_,L⟩;rw[Hq]at f;split at f;rename_i e;subst e;split at f;cases f;obtain⟨p,z,y⟩:=l j _ C;refine⟨p,z,?_⟩;cases y;exact .gs0 _ _ _ none G;cases f;exact l i v f)
 obtain⟨r,q⟩:=Rel.nilGro (A:=⟨t1,A.next⟩) u g;exact⟨nilU σ A.next,J.mono (dR σ _),r,I.sub (dR σ _),X.trans (s.trans q)⟩
theorem Turns.nilArr{j f:Nat}{k:TypeId}{rest:Lh}{t2:T AObj}(G:unk+3<=m)(K:A.t.get B=some (.arr els rest f k))(C:rest[j]? =some (.slice none 0 0))(D:T.set FU A.t B (.arr els (rest.set j (.slice (some ⟨A.next,0,none⟩) 0 m)) f k)=some t1)(g:T.set FU t1 A.next (.gro [] [] e)=some t2):
 Turns E A0 n F A F ⟨t2,A.next+1⟩:=by
 intro o V a w ⟨σ,J,R,I,X⟩;obtain⟨u,s⟩:=Rel.retell (o2:=.arr els (rest.set j (.slice (some ⟨A.next,0,none⟩) 0 m)) f k) R K D rfl rfl rfl (λb d Y h=>by
  obtain⟨⟨U,x,H,O,N,l,M⟩,L⟩:=h;refine⟨⟨U,x,H,O,N,λi v c=>?_,M⟩,L⟩;have S:els++rest.set j (.slice (some ⟨A.next,0,none⟩) 0 m)=(els++rest).set (els.length+j) (.slice (some ⟨A.next,0,none⟩) 0 m):=by rw[IZ _ _ (by omega)];congr 2;omega
  rw[S,Hq]at c;split at c;rename_i e;subst e;split at c;cases c;obtain⟨p,z,y⟩:=l (els.length+j) _ (by rw[Hy (by omega),show els.length+j-els.length=j by omega];exact C);refine⟨p,z,?_⟩;cases y;exact .gs0 _ _ _ none G;cases c;exact l i v c)
 obtain⟨r,q⟩:=Rel.nilGro (A:=⟨t1,A.next⟩) u g;exact⟨nilU σ A.next,J.mono (dR σ _),r,I.sub (dR σ _),X.trans (s.trans q)⟩
theorem W.loopT{b:Code}(I:Nat->T Value->AH->Prop)(g:∀ m F A,I m F A->W E A0 n b (Then (λt A'=>∃ i F1 A1,i<m/\I i F1 A1/\Turns E A0 n t A' F1 A1) Q) F A)(h:I m F1 A1)(x:Turns E A0 n F A F1 A1):W E A0 n (.loop b) Q F A:=by
 intro f r a w d q s;have j:∀ k m F A a w,m<k->I m F A->At E f A0 r n F A a w->Code.rounds E.P b q k a w:=by
  intro k;induction k with
  |zero=>intro m F A a w z;omega
  |succ k v=>
  intro m F A a w z C d;show b.wp E.P (Exit.then (Code.rounds E.P b q k) q) a w;refine g m F A C f r a w d _ λD t A' G u o c=>?_;cases D with
  |normal=>obtain⟨i,H,J,y,p,l⟩:=o;exact v i H J G u (by omega) p (l _ _ _ _ c)
  |exit id=>exact s _ _ _ _ _ o c
  |ret=>exact s _ _ _ _ _ o c
 exact JB (m+1) (j (m+1) m F1 A1 a w (IC _) h (x _ _ _ _ d))
theorem W.turns{c:Code}(a:Turns E A0 n F A F1 A1)(k:W E A0 n c Q F1 A1):W E A0 n c Q F A:=W.turn a k
end
def one(a:Lh)(v:Value):Lh->Lj:=λargs=>open Classical in if args=a then some v else none
theorem mD(a:Lh)(v:Value):one a v a=some v:=by simp[one]
theorem qo{E:Env}(g:E.Ok)(b:GlOk E){f:FuncId}{fn:Func}(c:E.fn f=some fn){a:Lh}{v:Value}(j:∀ x∈a,HF x)(i:Walk E fn a v):Con E f (dw (one a v)):=
 zU g b c λd u h=>by unfold one at h;split at h;rename_i e;cases h;subst e;exact⟨j,i⟩;cases h
theorem aM{x:Int}(e: -9223372036854775808<=x)(d:x<9223372036854775808):IntKind.i64.wrap x=x:=by
 have c:(2:Int) ^ IntKind.i64.bits=18446744073709551616:=by decide
 have b:(2:Int) ^ (IntKind.i64.bits-1)=9223372036854775808:=by decide
 have a:IntKind.i64.signed=true:=rfl;unfold IntKind.wrap;rw[c,b,a];simp only[JW,GQ];split<;>omega
end
end Go.AM
namespace Go.AM
open Go.ChangeShapes
abbrev _root_.Go.GB:=@List.length_map
variable {R:Lh->Prop}{base:Nat}{P:Program}{t:TypeId}{w:World}
def gy(P:Program)(t:TypeId)(R:Lh->Prop):Prop:=∀ {H:Type}(enc:TypeId×Value->H) (w:World) (base:Nat) (sp:Nat->Bool) (held:Bool) (fuel:Nat) (cs:Lh) (x:DataW H×List MemPlace),
 DataW.trod enc P w base sp held fuel t cs=some x->∃ acs,R acs/\VRs (sig0 w) acs cs
theorem vk{k:IntKind}(e:P.underlying t=some (.int k)):gy P t (λa=>∃ n,a=[.int k n]/\(Lit.int k n).wf=true):=by intro H f w base g b c i x h;obtain⟨n,rfl,_,d⟩:=DataW.trod_int e h;exact⟨_,⟨n,rfl,d⟩,.cons (.int _ _) .nil⟩
theorem tf(e:P.underlying t=some .bool):gy P t (λa=>∃ b,a=[.bool b]):=by intro H f w base g c d i x h;obtain⟨b,rfl,_⟩:=DataW.trod_bool e h;exact⟨_,⟨b,rfl⟩,.cons (.bool _) .nil⟩
inductive OpensAll (P:Program):List Field->Nat->(Lh->Prop)->Prop
 |nil {o:Nat}:OpensAll P [] o (λacs=>acs=[])
 |cons {f:Field}{fs:List Field}{o:Nat}{R S:Lh->Prop}(ho:f.offset=o) (h:gy P f.type R) (k:OpensAll P fs (o+P.cellsOf f.type) S):OpensAll P (f::fs) o (λacs=>∃ a b,R a/\S b/\acs=a++b)
theorem iW{P:Program}{H:Type}{enc:TypeId×Value->H}{w:World}{base:Nat}{sp:Nat->Bool}{held:Bool}{n:Nat}{cs:Lh}{tot:Nat}:∀ {fs:List Field}{o:Nat}{R:Lh->Prop},OpensAll P fs o R->
 (∀f∈fs,∃x,DataW.trod enc P w base sp held n f.type ((cs.drop f.offset).take (P.cellsOf f.type))=some x)->cs.length=o+(fs.map λf=>P.cellsOf f.type).sum->∃ c,R c/\VRs (sig0 w) c (cs.drop o)
 |_,o,_,.nil,_,hl=>⟨[],rfl,by have:cs.drop o=[]:=HZ (by simp at hl;omega);rw[this];exact .nil⟩
 | _,o,_,.cons (f:=f) (fs:=fs) ho h k,hf,hl=>by
  obtain⟨x,j⟩:=hf f (by simp);obtain⟨a,p,d⟩:=h enc w base sp held n _ x j;obtain⟨b,m,i⟩:=iW (tot:=tot) k (λg l=>hf g (by simp[l])) (by simp only[Hj,List.sum_cons]at hl;omega);refine⟨a++b,⟨a,b,p,m,rfl⟩,?_⟩;rw[ho]at d;have e:cs.drop o=(cs.drop o).take (P.cellsOf f.type)++cs.drop (o+P.cellsOf f.type):=by
   conv=>lhs;rw[<-I9 (P.cellsOf f.type) (cs.drop o)]
   rw[IW]
  rw[e];exact d.append i
theorem oq{fs:Array Field}(o:P.underlying t=some (.struct fs))(u:P.cellsOf t=(fs.toList.map λf=>P.cellsOf f.type).sum)(h:OpensAll P fs.toList 0 R):gy P t R:=by
 intro H d w base j a k l x m;obtain⟨g,n,_,_,q,p,c⟩:=DataW.trod_struct o m;have:=iW (tot:=0) (enc:=d) (w:=w) (base:=base) (sp:=j) (held:=a) (n:=n) (cs:=l) h (λf s=>by
  obtain⟨i,r⟩:=List.getElem?_of_mem s;have b:fs[i]? =some f:=by simpa using r
  have e:i<g.length:=by rw[p];exact(IP.1 b).1
  exact⟨g[i],by rw[c i f b,E' e]⟩) (by rw[q,u];simp)
 simpa using this
theorem Ab{a:Addr}(h:a.spot=none)(x y:Nat):(a.add x).add y=⟨a.block,a.off+x+y,none⟩:=by obtain⟨b,o,s⟩:=a;simp only at h;subst h;unfold Addr.add;by_cases d:x=0;subst d;by_cases c:y=0;simp[c];simp[c];by_cases c:y=0;simp[d,c];simp[d,c]
theorem CU{P:Program}{a:Addr}{len sz:Nat}{p :Type}{ev: p ->Value}(s:0<sz)(J:∀ x,(ev x).cells.toList.length=sz)
 (h:∀ i,i<len->∃ b x,w.cells? base (a.add (i*sz)) sz=some b/\VRs (sig0 w) (ev x).cells.toList b) (m:0<len):
 ∃(c:Array Value) (e:TypeId) (fz:Nat×Nat) (d:List p),a.spot=none/\w.heap[a.block]? =some (.cells c e fz)/\d.length=len/\VRs (sig0 w) (am (d.map ev)) ((c.toList.drop a.off).take (len*sz)):=by
 have g:∀ i,i<len->∃ b x,(∀j,j<sz->w.cell? ((a.add (i*sz)).add j)=b[j]?)/\b.length=sz/\VRs (sig0 w) (ev x).cells.toList b:=λi D=>by obtain⟨b,x,L,K⟩:=h i D;obtain⟨G,F,A⟩:=World.cells?_some L;exact⟨b,x,A,F,K⟩
 obtain⟨C,O,M,l0,_⟩:=g 0 m;have z:∃ v,w.cell? a=some v:=by have:=M 0 s;simp only[Nat.zero_mul,Addr.add,Ie]at this;exact⟨C[0],by rw[this,E' (by omega)]⟩
 obtain⟨Q,f⟩:=z;unfold World.cell? at f;split at f;case h_2=>cases f
 rename_i c e fz E;have l:a.spot=none:=by split at f;cases f;rename_i I;simpa using I
 have n:∀ i j,i<len->j<sz->∀ b:Lh,(∀j,j<sz->w.cell? ((a.add (i*sz)).add j)=b[j]?)->c.toList[a.off+i*sz+j]? =b[j]?:=λi j D o b y=>by rw[<-y j o];have B:=Ab (a:=a) l (i*sz) j;rw[B];unfold World.cell?;simp[E]
 have q:∀ k,k<=len->∃ d:List p,d.length=k/\VRs (sig0 w) (am (d.map ev)) ((c.toList.drop a.off).take (k*sz)):=by
  intro k;induction k with
  |zero=>intro _;exact⟨[],rfl,by simp[am];exact .nil⟩
  |succ k H=>
  intro S;obtain⟨d,u,r⟩:=H (by omega);obtain⟨b,x,G,F,A⟩:=g k (by omega);refine⟨d++[x],by simp[u],?_⟩;have B:am ((d++[x]).map ev)=am (d.map ev)++(ev x).cells.toList:=by simp[am]
  have N:(c.toList.drop a.off).take ((k+1)*sz)=(c.toList.drop a.off).take (k*sz)++b:=by rw[Ji,List.take_add];congr 1;apply II;intro j;by_cases o:j<sz;rw[GZ,Gw o,GV,GV,<-n k j (by omega) o b G];congr 1;omega;rw[Hw (by simp;omega),Hw (by omega)]
  rw[B,N];exact r.append A
 obtain⟨d,u,r⟩:=q len (GK _);exact⟨c,e,fz,d,l,E,u,r⟩
theorem gc{e:TypeId}{C :Type}{ev: C ->Value}{sz:Nat}(N:P.underlying t=some (.slice e))(Q:P.cellsOf e=sz)(s:0<sz)(q:∀ x,(ev x).cells.toList.length=sz)(h:gy P e R)
 (S:∀ d,R d->∃ x,d=(ev x).cells.toList):gy P t (λd=>∃ p:List C,d=[.func (.yield sz) ⟨p.map ev⟩ ⟨[]⟩]/\p.length<=maxLen):=by
 intro H A w base I r F cs x M;rcases Go.Deep.open_slice N M with⟨rfl,_⟩|⟨a,j,B,m,n,D,Pl,rfl,hb,hl,hm,u,_,g⟩;exact⟨_,⟨[],rfl,by simp⟩,.cons (.datN _) .nil⟩;rw[Q]at g;have O:j<=m:=by rw[u];split<;>omega
 have l:∀ i,i<j->∃ f x,w.cells? base (a.add (i*sz)) sz=some f/\VRs (sig0 w) (ev x).cells.toList f:=λi hi=>by obtain⟨f,X,V⟩:=g i (by omega);obtain⟨d,K,J⟩:=h A w base I r n f _ V;obtain⟨x,rfl⟩:=S d K;exact⟨f,x,X,J⟩
 by_cases Y:j=0;subst Y;exact⟨_,⟨[],rfl,by simp⟩,.cons (.datE _ _ _) .nil⟩;obtain⟨c,G,v,p,g1,g2,E,Z⟩:=CU (P:=P) s q l (by omega);refine⟨_,⟨p,rfl,by omega⟩,.cons ?_ .nil⟩;have ea:a=⟨a.block,a.off,none⟩:=by cases a;simp_all
 rw[ea,<-E];have:(sig0 w).ro a.block=some (.cells c G v):=g2;have U:=VR.dat (σ:=sig0 w) (b:=a.block) (o:=a.off) (k:=B) (sz:=sz) (e:=G) (fz:=v) (c:=c) (els:=p.map ev) this (λy L=>by obtain⟨z,_,rfl⟩:=GA.1 L;rw[<-q z];rfl) (by simp;omega) (by simp only[GB];rw[E];exact Z)
 simpa using U
theorem te(h:gy P t R){H:Type}{enc:TypeId×Value->H}{sp:Nat->Bool}{held:Bool}{v:Value}{d:DataW H}{c:List MemPlace}(f:DataW.Trod enc P w base sp held t v d c):∃ b,R b/\VRs (sig0 w) b v.cells.toList:=by obtain⟨a,e⟩:=f;exact h enc w base sp held a _ _ e
theorem ud{fs:Array Field}(f:P.underlying t=some (.struct fs))(h:gy P t R){H:Type}{enc:TypeId×Value->H}{r:Reach}{j:Nat}{sp:Nat->Bool}{held:Bool}{v:Value}{d:DataW H}{c:List MemPlace}
 (b:Value.okWide P w r j t v) (g:DataW.Trod enc P w base sp held t v d c):∃ a,R a/\VR (sig0 w) (.agg ⟨a⟩) v:=by unfold Value.okWide at b;rw[f]at b;obtain⟨k,rfl,_⟩:=b;obtain⟨a,i,e⟩:=te h g;exact⟨a,i,.agg e⟩
end Go.AM
