/- A part of the proof. -/
import Derived.Test.YtegefclhhjbfhaaGreatDoorB
import Derived.Scope
import Derived.Laws.LoneSync
import Derived.Carry
import Derived.ChangeSame
import Derived.Deep.Slices
import Derived.ChangeArms
import Derived.WideShapes
set_option linter.unusedVariables false
set_option linter.unusedSimpArgs false
namespace Go.AM
noncomputable section
theorem _root_.Go.J0:type_of% @decide_eq_false_iff_not:=@decide_eq_false_iff_not
abbrev _root_.Go.IT:=@Nat.le_add_right
theorem ExtG.trans0{σ0 σ σ':Sig}{g0 g y:Nat->Option AObj}{r n v:Nat}{w0 w w':World}(h:ExtG σ0 g0 r w0 σ g n w)(k:ExtG σ g r w σ' y v w'):ExtG σ0 g0 r w0 σ' y v w' where
 sig B hB:=(k.sig B hB).trans (h.sig B hB)
 snl B hB:=(k.snl B hB).trans (h.snl B hB)
 next:=k.next
 size:=I6 h.size k.size
 frame b hb hn:=by refine(k.frame b (It hb h.size) λB o x a q p e=>?_).trans (h.frame b hb hn);rcases h.orig B o x a q p with c|⟨m,f,d,l,j,i,s⟩;all_goals grind
 orig B o x a q p:=by rcases k.orig B o x a q p with c|⟨m,f,d,l,j,i,s⟩;exact .inl (I6 h.size c);· rcases h.orig m f d l j i with c|⟨E,u,t,D,C,A,z⟩;all_goals grind
 orig2 B o x a q p:=by rcases k.orig2 B o x a q p with c|⟨m,f,d,l,j,i,s⟩;exact .inl (I6 h.size c);· rcases h.orig2 m f d l j i with c|⟨E,u,t,D,C,A,z⟩;all_goals grind
 os:=k.os.trans h.os
 tape:=k.tape.trans h.tape
 output:=k.output.trans h.output
 sro b o hb:=k.sro b o (h.sro b o hb)
 rog b o hb:=by rcases k.rog b o hb with a|a|⟨m,f,d,l,j,i,s⟩;exact h.rog b o a;exact .inr (.inl (I6 h.size a));· rcases h.orig m f d l j i with c|⟨E,u,t,D,C,A,z⟩;all_goals grind
section
variable {call:bR}{E:Env}{ops:Array Oper}{ms:Lg}{n n0:Nat}{F0:T Value}{fs:List (T Value)}{vs:Lh}{cs:List AH}{es:Lg}{als:List Al}
 {σ0:Sig}{g0:Nat->Option AObj}{w0:World}{L:Nat->Bool}{e:Nat}{σ:Sig}{a:Act}{w:World}{i:Nat}{o:Oper}
theorem dst_lt{n:Nat}{F f:T Value}{b:Option Tmp}{v:Value}(h:put n F b v=some f):∀ d,b=some d->d<n:=by rintro d rfl;simp only[put]at h;cases c:Nat.blt d n;rw[c]at h;simp at h;simp_all
theorem bp{i j:Nat}{L:Nat->Bool}:(decide (j=i)||L j)=true↔j=i∨L j=true:=by simp
theorem St.plain(p:SF E ops ms)(H:TR call E ops ms n n0 F0 fs vs cs es als)(st:St E ops n n0 F0 vs cs es als σ0 g0 w0 L e σ a w)(t:ops[i]? =some o)(m:L i=false)
 (I:∀ f∈o.after.toList,Region.binds .any f=true->L f.on=true) {v v':Value}(s:vs[i]? =some v) (g:VR σ v v') (C:∀ d,o.dst=some d->d<n) (B:i ∉ es) (F:∀ x∈als,x.1≠i):
 St E ops n n0 F0 vs cs es als σ0 g0 w0 (λj=>decide (j=i)||L j) e σ (a.put o.dst v') w:=by
 have z:i<ops.size:=by grind
 refine⟨?_,?_,?_,?_,?_,im p st t m s ⟨λ_ _ h=>h,λ_ _ h=>h⟩ g C,?_,st.glob,?_⟩;intro c q k b f l D;rw[bp]at b ⊢;right;rcases b with rfl|b;grind;exact st.cl c q k b f l D;intro c b;rw[bp]at b;rcases b with rfl|b;exact z;exact st.lt c b;intro j c y;have u:c≠i:=by grind
 rw[bp];rw[<-st.ef j c y];grind;cases h:o.dst with
 |none=>exact st.sz
 |some d=>simp[Act.put,st.sz]
 cases h:o.dst with
 |none=>exact st.df
 |some d=>simp[Act.put,st.df]
 intro x r b;refine st.free x r ?_;grind;obtain⟨G,M,K,J⟩:=st.rel;have A:gf als G (λj=>decide (j=i)||L j)=gf als G L:=by grind [Fz]
 grind
theorem nL(f:SF E ops ms)(c:TR call E ops ms n n0 F0 fs vs cs es als)(st:St E ops n n0 F0 vs cs es als σ0 g0 w0 L e σ a w)(p:ops[i]? =some o)
 (m:∀ d∈o.after.toList,Region.binds .any d=true->L d.on=true) {G H:AH}(r:bX ((nth ms i).getD 0) als G=some H):
 H.next=G.next/\(∀B ob,H.t.get B=some ob->ob.here=true->gf als G L B=some ob)/\(∀B ob,vis G B=some ob->vis H B=some ob):=by obtain⟨s1,k,g,u⟩:=fQ r (λx l=>AObj.here_of_own (c.als_ok.own x l));refine⟨s1,λB ob s q=>?_,g⟩;rcases k B ob (vis_some.2 ⟨s,q⟩)with h|⟨h1,j,h2,h3⟩;exact km h;have b:L j=true:=f.anc (λi=>L i=true) st.cl i o p m j h3;exact tW c.als_ok h2 b h1
theorem tf(ok:E.Ok)(hc:fJ E call)(sf:SF E ops ms)(D:TR call E ops ms n n0 F0 fs vs cs es als)(st:St E ops n n0 F0 vs cs es als σ0 g0 w0 L e σ a w)(ho:ops[i]? =some o)(O:L i=false)
 (hr:∀ ed∈o.after.toList,Region.binds .any ed=true->L ed.on=true) {K:Act->World->Prop}{Q:Exit->Act->World->Prop}
 (hK:∀ e' σ' a' w',St E ops n n0 F0 vs cs es als σ0 g0 w0 (λj=>decide (j=i)||L j) e' σ' a' w'->K a' w'):wpOp E.P ops Q i K a w:=by
 have hi:i<ops.size:=by grind
 obtain⟨F,F',v,hF,f7,hv,c5,c3⟩:=D.row i o ho;have hd:=dst_lt c5;have a9:∀ j,bit ms i j=true->L j=true:=sf.anc (λi=>L i=true) st.cl i o ho hr;have a3:∀ t,t∈o.looksAt ops->VO σ (slot F t) (a.tmps.getD t undef):=λt ht=>tJ sf D st ho hF O hr ht;have b0:OpR σ (rho E F (bH o.op)) a.eval:=Da st.glob λt ht=>a3 t (s9 ops o ht);have N:∀ r,ct ops.toList F o=some r->Region.wanted o (yielded ops a.tmps)=r:=by intro r b1;refine lS (σ:=σ) (λj f4 oj d hg hj f6=>a3 d ?_) b1;unfold Oper.looksAt;grind
 unfold wpOp;simp only[ho];rcases c3 with⟨hw,rfl,a7,a8⟩|⟨hw,a7,a8,hq⟩|⟨hw,a7,ob,fv,d5,a2,rfl⟩|⟨hw,a8,e',G,G',H,he,hG,f1,hH,d3,e5⟩;rw[N _ hw,Hm (by simp)];exact hK e σ _ w (st.plain sf D ho O hr hv (cv σ) hd a7 a8);rw[N _ hw,Ht rfl];left;obtain⟨G,hG,g,X⟩:=st.rel;obtain⟨H,hH,a5⟩:=hq e G hG (λj J hj hb=>(st.ef j J hj).1 (a9 J hb)) (λj J hj V=>by cases hb:bit ms J i;rfl;have s:=(st.ef j J hj).2 V;have:=sf.closed (λi=>L i=true) st.cl J (st.lt J s) s i hb;rw[O]at this;cases this)
 obtain⟨p1,p2,p3⟩:=nL sf D st ho hr hH;have RH:Rel E.P σ H w:=RelG.fewer g p2 (λB hB=>g.fresh B (by rw[p1]at hB;exact hB)) (λB h=>by rw[p1];exact(g.nl B h).1);obtain⟨v',p,m⟩:=qW ok RH b0 a5;unfold Oper.wp;rw[p];exact hK e σ _ w (st.plain sf D ho O hr hv m hd a7 a8)
 · rw[N _ hw,Ht rfl];left;obtain⟨G,hG,g,X⟩:=st.rel;obtain⟨d9,g5,p,m,U,h4⟩:=nu ok b0 d5;have a6:σ (n0+i)=none:=(st.free _ a2 O).1;have d0:¬ σ.nl (n0+i):=(st.free _ a2 O).2;have e0:vis G (n0+i)=none:=by
    cases c4:vis G (n0+i)with
    |none=>rfl
    |some x=>rcases g.obj0 _ _ (km c4) (vis_some.1 c4).2 with⟨b,d,c,hb,_⟩|⟨_,hb⟩;all_goals grind
   have d1:∀ B,gf als G (λj=>decide (j=i)||L j) B=if B=n0+i then some ob else gf als G L B:=by intro B;by_cases eB:B=n0+i;rw[Ht eB,eB];exact tW D.als_ok a2 (by simp) e0;rw[Hm eB];apply Option.ext;intro x;constructor;intro u;rcases mP u with h|⟨p,j,m,U⟩;exact km h;refine tW D.als_ok m ?_ p;rw[bp]at U;rcases U with rfl|U;have:=D.als_ok.id _ m;exact absurd this eB;exact U;intro u;rcases mP u with h|⟨p,j,m,U⟩;exact km h;exact tW D.als_ok m (by simp[U]) p
   have c6:n0+i<G.next:=by have:=D.cs_next G (HR hG);omega
   unfold Oper.wp;rw[p w];refine hK e (upd σ (n0+i) (w.heap.size,0,0)) _ _ ⟨?_,?_,?_,?_,?_,im sf st ho O hv (ch a6) (U _ (n0+i) w.heap.size 0 bG) hd,?_,st.glob.sub (ch a6),G,hG,?_,?_⟩;intro J o' b4 s ed c1 hb;rw[bp]at s ⊢;right;rcases s with rfl|s;grind;exact st.cl J o' b4 s ed c1 hb;intro J s;rw[bp]at s;rcases s with rfl|s;exact hi;exact st.lt J s;intro j J hj;have a1:J≠i:=by grind
   rw[bp,<-st.ef j J hj];grind;cases h:o.dst with
   |none=>exact st.sz
   |some d=>simp[Act.put,st.sz]
   cases h:o.dst with
   |none=>exact st.df
   |some d=>simp[Act.put,st.df]
   intro x u s;simp only[II,J0]at s;have:=D.als_ok.id x u;refine⟨?_,(st.free x u s.2).2⟩;unfold upd;simp only;rw[Hm (by omega)];exact(st.free x u s.2).1;exact RelG.alloc g d1 a6 d0 c6 (Hw _) (m _ (ch a6)) rfl;exact ExtG.trans0 X (ExtG.allocAt g d1 (by grind) (IT _ _) (ob:=d9) rfl rfl rfl rfl)
 rw [N _ hw,Ht rfl];left;obtain⟨G1,d6,g,X⟩:=st.rel;have e6:e'=e:=by
  have p:¬ e'<e:=λh=>by have:=(st.ef e' i he).2 h;rw[O]at this;cases this
  have m:¬ e<e':=λh=>by
   have V:e<es.length:=by grind
   have b3:es[e]? =some es[e]:=by simp[V]
   obtain⟨o1,e4,c0⟩:=D.es_eff e _ b3;obtain⟨o2,e3,b5⟩:=D.es_eff e' _ he;have:=sf.effs _ _ _ _ e4 e3 c0 b5 (D.es_inc e e' _ _ b3 he h);have:=(st.ef e _ b3).1 (a9 _ this);omega
  omega
 subst e6;rw[hG,osI]at d6;subst d6;obtain⟨p1,p2,p3⟩:=nL sf D st ho hr hH;have RH:Rel E.P σ H w:=RelG.fewer g p2 (λB hB=>g.fresh B (by rw[p1]at hB;exact hB)) (λB h=>by rw[p1];exact(g.nl B h).1);refine sw ok hc RH st.glob b0 d3 _ _ λv' w' σ' q1 q2 I=>?_;have q:σ.sub σ':=Ext.sub RH I;have z:∀ B x,gf als G' (λj=>decide (j=i)||L j) B=some x->vis G' B=some x∨(gf als G L B=some x/\vis H B=none/\∃ y∈als,y.2.1=B):=by
  intro B x u;rcases mP u with h|⟨p,j,m,U⟩;exact .inl h;right;have e1:vis H B=none:=by grind [vis]
  have e2:vis G B=none:=by grind [vis]
  rw[bp]at U;have f0:L j=true:=by grind
  exact⟨tW D.als_ok m f0 e2,e1,_,m,rfl⟩
 have a4:∀ B x,H.t.get B=some x->x.own=true->gf als G L B=some x:=λB x p m=>p2 B x p (AObj.here_of_own m);have f5:∀ B x,H.t.get B=some x->x.here=true->vis H B=some x:=λB x p m=>vis_some.2 ⟨p,m⟩;have d7:∀ B x,gf als G L B=some x->vis H B=none->(∃y∈als,y.2.1=B)->x.own=true:=by intro B x u hv _;rcases mP u with h|⟨_,j,m,_⟩;rw[p3 B x h]at hv;cases hv;exact D.als_ok.own _ m
 have c6:n0+ops.size<=G.next:=D.cs_next G (HR hG)
 refine hK (e'+1) σ' _ w' ⟨?_,?_,?_,?_,?_,im sf st ho O hv q q1 hd,?_,st.glob.sub q,G',f1,?_,?_⟩;intro J o' b4 s ed c1 hb;rw[bp]at s ⊢;right;rcases s with rfl|s;grind;exact st.cl J o' b4 s ed c1 hb;intro J s;rw[bp]at s;rcases s with rfl|s;exact hi;exact st.lt J s;intro j J hj;rw[bp];by_cases ej:j=e';grind;have a1:J≠i:=by rintro rfl;rcases Nat.lt_or_gt_of_ne ej with h|h;have:=D.es_inc j e' _ _ hj he h;omega;have:=D.es_inc e' j _ _ he hj h;omega
 rw[st.ef j J hj];grind;cases h:o.dst with
 |none=>exact st.sz
 |some d=>simp[Act.put,st.sz]
 cases h:o.dst with
 |none=>exact st.df
 |some d=>simp[Act.put,st.df]
 intro x u s;simp only[II]at s;have p:=D.als_ok.id x u;have m:=D.als_ok.lt x u;refine⟨by rw[I.sig x.2.1 (by rw[p1];omega)];exact(st.free x u s.2).1,λh=>(st.free x u s.2).2 ((I.snl x.2.1 (by rw[p1];omega)).1 h)⟩
 · have C:∀ B,σ.nl B->σ' B=none:=λB h=>(q2.nl B ((I.snl B (by rw[p1];exact(g.nl B h).1)).2 h)).2;refine⟨?_,?_,q2.lt,q2.fresh,q2.ro,λB x y u k hy=>?_,q2.nl⟩;rotate_left 2;rcases z B x u with h|⟨p,m,U⟩;exact q2.sep B x y (vis_some.1 h).1 k hy
   · rcases g.obj0 B x p (AObj.here_of_own k)with⟨b,d,c,A,_⟩|⟨_,S⟩;rotate_left;rw[C B S]at hy;cases hy;have:=q.f _ _ A;rw[this,osI]at hy;subst hy;cases b1:σ'.ro b with
     |none=>rfl
     |some oo=>
     rcases I.rog b oo b1 with k2|k2|⟨Z,o0,x0,g1,Y,g3,g4⟩;have:=g.sep B x _ p k A;rw[this]at k2;cases k2;have:=g.lt B _ A;simp only at this;omega;have R:Z≠B:=by rintro rfl;grind [AObj.here_of_own]
     exact absurd g4 (g.inj Z B o0 x x0 _ (a4 Z o0 g1 Y) p Y (AObj.here_of_own k) R g3 A)
   intro B x u hh;rcases z B x u with h|⟨p,m,U⟩;exact q2.obj0 B x (vis_some.1 h).1 hh
   · rcases g.obj0 B x p hh with⟨b,d,c,A,k2⟩|⟨A,S⟩;rotate_left;exact .inr ⟨A,(I.snl B (by rw[p1];exact(g.nl B S).1)).2 S⟩;refine .inl ⟨b,d,c,q.f _ _ A,?_⟩;rw[I.frame b (g.lt B _ A) λB1 o1 x1 g1 Y g3 ge=>?_];exact k2.mono q;have a1:B1≠B:=by grind
     exact g.inj B1 B o1 x x1 (b,d,c) (a4 B1 o1 g1 Y) p Y hh a1 g3 A ge
   intro B1 B2 o1 o2 x1 x2 e9 d4 k l a1 a0 M;rcases z B1 o1 e9 with p|⟨p,f8,f9⟩;rcases z B2 o2 d4 with m|⟨m,f2,f3⟩;exact q2.inj B1 B2 o1 o2 x1 x2 (vis_some.1 p).1 (vis_some.1 m).1 k l a1 a0 M
   · rcases g.obj0 B2 o2 m l with⟨b,d,c,A,_⟩|⟨_,S⟩;rotate_left;rw[C B2 S]at M;cases M;have:=q.f _ _ A;rw[this,osI]at M;subst M;have V:=g.lt B2 _ A;rcases I.orig B1 o1 x1 (vis_some.1 p).1 k a0 with hs|⟨Z,o0,x0,g1,Y,g3,g4⟩;simp only at V ⊢;omega;rw[<-g4];have R:Z≠B2:=by grind
     exact g.inj Z B2 o0 o2 x0 _ (a4 Z o0 g1 Y) m Y l R g3 A
   · rcases g.obj0 B1 o1 p (AObj.here_of_own k)with⟨b,d,c,A,_⟩|⟨_,S⟩;rotate_left;rw[C B1 S]at a0;cases a0;have:=q.f _ _ A;rw[this,osI]at a0;subst a0;have V:=g.lt B1 _ A;rcases z B2 o2 d4 with m|⟨m,f2,f3⟩;rcases I.orig2 B2 o2 x2 (vis_some.1 m).1 l M with hs|⟨Z,o0,x0,g1,Y,g3,g4⟩;simp only at V ⊢;omega;rw[<-g4];have R:B1≠Z:=by grind
     exact g.inj B1 Z o1 o0 _ x0 p (p2 Z o0 g1 Y) k Y R A g3;· rcases g.obj0 B2 o2 m l with⟨b2,d2,c2,k2,_⟩|⟨_,S⟩;rotate_left;rw[C B2 S]at M;cases M;have:=q.f _ _ k2;rw[this,osI]at M;subst M;exact g.inj B1 B2 o1 o2 _ _ p m k l a1 A k2
 · have C:∀ B,σ.nl B->σ' B=none:=λB h=>(q2.nl B ((I.snl B (by rw[p1];exact(g.nl B h).1)).2 h)).2;refine ExtG.trans X ⟨?_,?_,I.size,?_,?_,?_,I.os,I.tape,I.output,I.sro,λb oo hb=>?_,λB hB=>I.snl B (by rw[p1];exact hB)⟩;rotate_left 5;· rcases I.rog b oo hb with h|h|⟨Z,o0,x0,g1,Y,g3,g4⟩;all_goals grind
   intro B hB;exact I.sig B (by rw[p1];exact hB);have:=I.next;rw[p1]at this;exact this
   intro b hb S;exact I.frame b hb λB ob x p m U=>S B ob x (a4 B ob p m) m U;intro B x y u k hy;rcases z B x u with h|⟨p,m,U⟩;· rcases I.orig B x y (vis_some.1 h).1 k hy with hs|⟨Z,o0,x0,g1,Y,g3,g4⟩;all_goals grind
   · rcases g.obj0 B x p (AObj.here_of_own k)with⟨b,d,c,A,_⟩|⟨_,S⟩;rotate_left;rw[C B S]at hy;cases hy;have:=q.f _ _ A;grind
   intro B x y u l hy;rcases z B x u with h|⟨p,m,U⟩;· rcases I.orig2 B x y (vis_some.1 h).1 l hy with hs|⟨Z,o0,x0,g1,Y,g3,g4⟩;all_goals grind
   · rcases g.obj0 B x p l with⟨b,d,c,A,_⟩|⟨_,S⟩;rotate_left;rw[C B S]at hy;cases hy;have:=q.f _ _ A;grind
end
theorem _root_.Go.Jx:type_of% @List.mem_filter:=@List.mem_filter
theorem _root_.Go.If:type_of% @List.mem_range:=@List.mem_range
abbrev _root_.Go.Jg:=@List.replicate_succ
def nf:Li->Nat
 | []=>0
 |true::l=>nf l
 |false::l=>nf l+1
theorem Bb:∀ {l:Li}{i:Nat},l[i]? =some false->nf (l.set i true)+1=nf l
 | [],i,h=>by simp at h
 |b::l,0,h=>by simp at h;subst h;simp[nf]
 |b::l,i+1,h=>by simp at h;have:=Bb h;cases b<;>simp[nf]<;>omega
theorem vG:∀ {l:Li},nf l=0->∀ {i:Nat}{b},l[i]? =some b->b=true
 | [],_,i,b,h=>by simp at h
 |true::l,hz,0,b,h=>by simp at h;exact h
 |true::l,hz,i+1,b,h=>by simp at h;exact vG (by simpa[nf]using hz) h
 |false::l,hz,_,_,_=>by simp[nf]at hz
section
variable {call:bR}{E:Env}{ops:Array Oper}{ms:Lg}{n n0:Nat}{F0:T Value}{fs:List (T Value)}{vs:Lh}{cs:List AH}{es:Lg}{als:List Al}
 {σ0:Sig}{g0:Nat->Option AObj}{w0:World}
theorem j7{a:Array Bool}(d:a.size=ops.size){i:Nat}:i∈Region.ready .any ops a↔∃ o,ops[i]? =some o/\a.getD i false=false/\∀ e∈o.after.toList,Region.binds .any e=true->a.getD e.on false=true:=by
 unfold Region.ready;rw[Jx,If];constructor;rintro⟨hi,h⟩;have b:ops[i]? =some ops[i]:=by simp[hi]
 simp only[b,Ik,JD,f',JA]at h;refine⟨_,b,?_,λe c g=>?_⟩;grind;have:=h.2;rw[Array.all_eq_true]at this;obtain⟨k,f,rfl⟩:=List.getElem_of_mem c;grind;grind
theorem uq(c:SF E ops ms){a:Array Bool}(j:a.size=ops.size)(h:Region.ready .any ops a=[]):∀ i,i<ops.size->a.getD i false=true:=by
 intro i;induction i using Nat.strongRecOn with
 |_ i g=>
 intro k;cases l:a.getD i false with
 |true=>rfl
 |false=>
 have b:ops[i]? =some ops[i]:=by simp[k]
 have:i∈Region.ready .any ops a:=(j7 j).2 ⟨_,b,l,λe d f=>g e.on (c.back i _ b e d f) (by have:=c.back i _ b e d f;omega)⟩;rw[h]at this;simp at this
theorem BN(q:E.Ok)(t:fJ E call)(l:SF E ops ms)(p:TR call E ops ms n n0 F0 fs vs cs es als){Q:Exit->Act->World->Prop}
 (m:∀ L e σ a w,(∀i,i<ops.size->L i=true)->St E ops n n0 F0 vs cs es als σ0 g0 w0 L e σ a w->Q .normal a w):
 ∀ (d:Nat) (c:Array Bool) (e:Nat) (σ:Sig) (a:Act) (w:World),c.size=ops.size->nf c.toList<=d->
   St E ops n n0 F0 vs cs es als σ0 g0 w0 (λj=>c.getD j false) e σ a w->wpAny E.P .any ops Q d c a w
 | 0,c,e,σ,a,w,hs,hn,st=>by
  have g:∀ i,i<ops.size->c.getD i false=true:=by
   intro i s;have z:c[i]? =some (c[i]'(by omega)):=by simp<;>omega
   have:=vG (by omega:nf c.toList=0) (i:=i) (b:=c[i]'(by omega)) (by simp<;>omega);simp_all
  refine⟨?_,m _ e σ a w g st⟩;cases v:Region.ready .any ops c with
  |nil=>rfl
  |cons i r=>
  have:i∈Region.ready .any ops c:=by rw[v];simp
  grind [j7,IP,Array.getElem?_eq_none]
 | d+1,c,e,σ,a,w,hs,hn,st=>by
  refine⟨λf=>m _ e σ a w (uq l hs f) st,λi s=>?_⟩;obtain⟨o,x,C,B⟩:=(j7 hs).1 s;have y:i<ops.size:=by grind
  refine tf q t l p st x C B λD h F u k=>?_;refine BN q t l p m d (c.setIfInBounds i true) D h F u (by simpa using hs) ?_ ?_;have z:c.toList[i]? =some false:=by simp_all
  grind [Bb,Array.toList_setIfInBounds];have A:(λj=>(c.setIfInBounds i true).getD j false)=(λj=>decide (j=i)||c.getD j false):=by funext j;rw[H8,Jl,H8];grind
  rw[A];exact k
theorem u9(X:E.Ok)(D:fJ E call)(y:nU E ops=true){A A':AH}{V:T Value}{U:AH}(l:TR call E ops (fj ops.toList []) n A.next F0 fs vs cs es als)
 (M:cs[0]? =some ⟨A.t,A.next+ops.size⟩) (K:cs[es.length]? =some U) (N:fs[ops.size]? =some V) {mm:Nat}(S:bX mm als U=some A')
 {σ:Sig}{a:Act}{w:World}(R:Rel E.P σ A w) (hg:Glob E σ) (O:FR σ F0 n a) {id:Nat}{Q:Exit->Act->World->Prop}
 (hQ:∀ H w' σ',FR σ' V n H->Rel E.P σ' A' w'->Ext σ A w σ' A' w'->Q .normal H w'):(Code.region id ops true).wp E.P Q a w:=by
 refine wp_region_any X.mixed ?_;have Z:=sf_of y;have hL0:∀ j,(Array.replicate ops.size false).getD j false=false:=by intro j;rw[H8,Array.getElem?_replicate];split<;>rfl
 have z:∀ (L:Nat->Bool),(∀j,L j=false)->∀ B,gf als ⟨A.t,A.next+ops.size⟩ L B=vis A B:=by intro L s B;unfold gf;have:vis ⟨A.t,A.next+ops.size⟩ B=vis A B:=rfl;grind
 refine BN (σ0:=σ) (g0:=A.t.get) (w0:=w) X D Z l ?_ ops.size _ 0 σ a _ (by simp) ?_ ?_;intro L e σ' H w' f q;have J:e=es.length:=by
  have g:e<=es.length:=by obtain⟨G,F,_⟩:=q.rel;have:=(Hx.1 F).1;have:=l.cs_len;omega
  rcases IP e es.length with h|h;have C:es[e]? =some es[e]:=by simp[h]
  obtain⟨o,ho,_⟩:=l.es_eff e _ C;have I:es[e]<ops.size:=by grind
  have:=(q.ef e _ C).1 (f _ I);omega;omega
 subst J;obtain⟨G,F,d,b⟩:=q.rel;rw[K,osI]at F;subst F;obtain⟨s1,s2,s3,s4⟩:=fQ S (λx r=>AObj.here_of_own (l.als_ok.own x r));have p:∀ B v,A'.t.get B=some v->v.here=true->gf als U L B=some v:=by intro B v u Y;rcases s2 B v (vis_some.2 ⟨u,Y⟩)with h|⟨g,j,c,m⟩;exact km h;exact tW l.als_ok c (f j (l.als_ok.lt _ c)) g
 refine hQ H w' σ' ⟨q.sz,λt=>?_,q.df⟩ (RelG.fewer d p (λB u=>d.fresh B (by rw[s1]at u;exact u)) (λB h=>by rw[s1];exact(d.nl B h).1)) ⟨b.sig,by rw[s1];exact b.next,b.size,b.frame,?_,?_,b.os,b.tape,b.output,b.sro,b.rog,b.snl⟩;rw[jN l t ops.size V (Hw _) N];have:fvl ops vs (λ_=>true) F0 t ops.size=fvl ops vs L F0 t ops.size:=gX _ λj C _=>(f j C).symm;rw[this];exact q.fr t;intro B o x g c m;exact b.orig B o x (p B o g (AObj.here_of_own c)) c m;intro B o x g c m;exact b.orig2 B o x (p B o g c) c m;rw[Array.toList_replicate];have:∀ k,nf (List.replicate k false)=k:=by
  intro k;induction k with
  |zero=>rfl
  |succ k ih=>simp[Jg,nf,ih]
 rw[this];exact Hw _;refine⟨?_,?_,?_,O.size,O.defers,?_,?_,hg,_,M,?_,?_⟩;intro i o _ s;rw[hL0]at s;cases s;intro i s;rw[hL0]at s;cases s;intro j i _;rw[hL0];simp;intro t;have:fvl ops vs (λj=>(Array.replicate ops.size false).getD j false) F0 t ops.size=slot F0 t:=by rw[jo (i:=0) ops.size (Jp _) λj _ _ D=>by rw[hL0]at D;cases D.1];rfl
 rw[this];exact O.val t;intro x r _;have:=l.als_ok.id x r;exact⟨R.fresh _ (by omega),λh=>by have:=(R.nl _ h).1;omega⟩;refine RelG.fewer (RelG.drew R (w':={w with drawn:=w.drawn+1}) rfl) (λB o h Y=>?_) (λB u=>R.fresh B (by simp only at u;omega)) (λB h=>It (R.nl B h).1 (IT _ _));grind [vis_some];have r:∀ B o,gf als ⟨A.t,A.next+ops.size⟩ (λj=>(Array.replicate ops.size false).getD j false) B=some o->A.t.get B=some o:=λB o h=>by rw[z _ hL0]at h;exact(vis_some.1 h).1
 exact⟨λ_ _=>rfl,IT _ _,Hw _,λ_ _ _=>rfl,λB o x g c m=>.inr ⟨B,o,x,r B o g,c,m,rfl⟩,λB o x g c m=>.inr ⟨B,o,x,r B o g,c,m,rfl⟩,rfl,rfl,rfl,λ_ _ h=>h,λ_ _ h=>.inl h,λ_ _=>JC⟩
end
variable {E:Env}
def veqs(f:Value->Value->Bool):Lh->Lh->Bool
 | [],[]=>true
 |a::x,b::y=>bif f a b then veqs f x y else false
 |_,_=>false
theorem jy{f:Value->Value->Bool}(d:∀ a b,f a b=true->a=b):∀ {x y:Lh},veqs f x y=true->x=y
 | [],[],_=>rfl
 | [],_::_,h=>by simp[veqs]at h
 |_::_,[],h=>by simp[veqs]at h
 |a::x,b::y,h=>by simp only[veqs]at h;cases c:f a b;rw[c]at h;simp at h;rw[c]at h;rw[d a b c,jy d h]
def sS(a b:Addr):Bool:=Nat.beq a.block b.block&&(Nat.beq a.off b.off&&(a.spot.isNone&&b.spot.isNone))
theorem oZ{a b:Addr}(h:sS a b=true):a=b:=by obtain⟨g,f,e⟩:=a;obtain⟨d,b2,c⟩:=b;simp only[sS,f']at h;simp_all
def veq:Nat->Value->Value->Bool
 |0,_,_=>false
 | n+1,a,b=>
   match a,b with
   | .bool x,.bool y=>(match x,y with|true,true=>true|false,false=>true|_,_=>false)
   | .int k x,.int k' y=>decide (k=k')&&decide (x=y)
   | .string s,.string t=>eqL s.data.toList t.data.toList
   | .pointer none,.pointer none=>true
   | .pointer (some a),.pointer (some b)=>sS a b
   | .slice none n k,.slice none n' k'=>Nat.beq n n'&&Nat.beq k k'
   | .slice (some a) n k,.slice (some b) n' k'=>sS a b&&(Nat.beq n n'&&Nat.beq k k')
   | .map none,.map none=>true
   | .map (some r),.map (some r')=>Nat.beq r r'
   | .func f x y,.func g x' y'=>decide (f=g)&&(veqs (veq n) x.toList x'.toList&&veqs (veq n) y.toList y'.toList)
   | .nilFunc,.nilFunc=>true
   | .iface t v,.iface u v'=>Nat.beq t u&&veq n v v'
   | .nilIface,.nilIface=>true
   | .agg x,.agg y=>veqs (veq n) x.toList y.toList
   | .tuple x,.tuple y=>veqs (veq n) x.toList y.toList
   |_,_=>false
theorem jz:∀ (n:Nat) (a b:Value),veq n a b=true->a=b
 |0,_,_,h=>by simp[veq]at h
 |n+1,a,b,h=>by unfold veq at h;split at h;grind;grind;rw[eH]at h;rw[IS h];rfl;rw[oZ h];simp_all;simp only[f']at h;grind [oZ,Ho];rfl;rw[Ho h];simp only[f',HL]at h;rw[h.1,H9.1 (jy (jz n) h.2.1),H9.1 (jy (jz n) h.2.2)];rfl;simp only[f']at h;rw[Ho h.1,jz n _ _ h.2];rfl;rw[H9.1 (jy (jz n) h)];rw[H9.1 (jy (jz n) h)];cases h
def hdep:Op->Bool
 | .load .. | .lookup .. | .convert .. =>true
 | .call _=>true
 |_=>false
theorem jX{H b:AH}{ρ:Operand->Lj}{ty:TypeId}{a:Op}(h:hdep a=false):quiet E H ρ ty a=quiet E b ρ ty a:=by cases a<;>first|rfl|(simp[hdep]at h)
theorem lZ{d :Type}:∀ (f:Nat) (t:T d) (k:Nat) (x: d),k+1<2 ^ f->∃ a,T.set f t k x=some a
 |0,t,k,x,h=>by simp at h
 | f+1,t,k,x,h=>by
  have j:2 ^ (f+1)=2*2 ^ f:=by rw[Nat.pow_succ];omega
  have b:∀ l v r,∃a,T.setAt (T.set f) l v r k x=some a:=by intro l v r;rw[T.setAt_eq];by_cases i:k=0;exact⟨_,by rw[Ht i]⟩;rw[Hm i];by_cases e:k%2=1;rw[Ht e];obtain⟨a,c⟩:=lZ f l (k/2) x (by omega);exact⟨.node a v r,by simp[c]⟩;rw[Hm e];obtain⟨a,c⟩:=lZ f r (k/2-1) x (by omega);exact⟨.node l v a,by simp[c]⟩
  cases t with
  |leaf=>exact b .leaf none .leaf
  |node l v r=>exact b l v r
  |fn g=>exact⟨_,T.set_fn f g k x⟩
theorem gz{m:Nat}:∀ (a:List Al) (G:AH),(∀x∈a,x.2.1+1<2 ^ FU)->∃ H,bX m a G=some H
 | [],G,_=>⟨G,rfl⟩
 | (i,id,ob)::r,G,h=>by
  obtain⟨H,d⟩:=gz r G (λx b=>h x (by simp[b]));unfold bX;rw[d];cases f:m.testBit i;exact⟨H,by simp⟩;cases c:vis H id with
  |some _=>exact⟨H,by simp[c]⟩
  |none=>obtain⟨t,e⟩:=lZ FU H.t id ob (h (i,id,ob) (by simp));grind
structure Qu where
 i:Nat
 m:Nat
 o:Oper
 F:T Value
 v:Value
structure RS where
 F:T Value
 G:AH
 past:List (Nat×AH)
 als:List Al
 qs:List Qu
def veqE(E:Env)(a b:Value):Bool:=match E.sym with|false=>veq 6 a b|true=> @decide (a=b) (Classical.propDecidable _)
theorem Cf{a b:Value}(h:veqE E a b=true):a=b:=by grind [veqE,jz]
theorem ux(b:E.sym=true)(a:Value):veqE E a a=true:=by unfold veqE;rw[b];simp
def fW(E:Env)(als:List Al)(G:AH)(q:Qu):Bool:=
 match bX q.m als G with
 |some H=>(match quiet E H (rho E q.F (bH q.o.op)) q.o.type q.o.op with|some v=>veqE E v q.v|none=>false)
 |none=>false
def iR(E:Env)(als:List Al)(q:Qu):List (Nat×AH)->Bool
 | []=>true
 |(ie,Gb)::r=>bif q.m.testBit ie then true else(bif fW E als Gb q then iR E als q r else false)
def tQ(H G:AH)(x:Al):Bool:=match vis H x.2.1 with|none=>true|some _=>(vis G x.2.1).isSome
def regA (call :bR)(E:Env)(ops:List Oper)(ms:Lg)(n n0 sz:Nat):List Oper->Nat->RS->Option RS
 | [],_,S=>some S
 | o :: rest, i,S=>
   match ct ops S.F o with
   |none=>none
   |some false=>(match put n S.F o.dst undef with|some F'=>regA call E ops ms n n0 sz rest (i+1) {S with F:=F'} |none=>none)
   | some true =>
     match gO E o.op with
     | true =>(match bX ((nth ms i).getD 0) S.als S.G with
       | some H=>(match c7 call E H (rho E S.F (bH o.op)) o.op with
         | some (v,G')=>
           bif S.als.all (tQ H G')&&(S.qs.all (λq=>((nth ms i).getD 0).testBit q.i||fW E S.als G' q)&&Nat.ble (n0+sz) G'.next)then
            (match put n S.F o.dst v with|some F'=>regA call E ops ms n n0 sz rest (i+1) ⟨F',G',(i,S.G)::S.past,S.als,S.qs⟩|none=>none)
           else none
         |none=>none)
       |none=>none)
     | false =>(match bT E (rho E S.F (bH o.op)) o.op with
       | some (ob,fv)=>bif (vis S.G (n0+i)).isNone&&S.past.all (λp=>(vis p.2 (n0+i)).isNone)then
        (match put n S.F o.dst (fv (n0+i))with|some F'=>regA call E ops ms n n0 sz rest (i+1) {S with F:=F',als:=(i,n0+i,ob)::S.als} |none=>none)else none
       | none =>(match bX ((nth ms i).getD 0) S.als S.G with
         | some H=>(match quiet E H (rho E S.F (bH o.op)) o.type o.op with
           | some v=>
             (match hdep o.op with
             | true=>bif iR E S.als ⟨i,(nth ms i).getD 0,o,S.F,v⟩ S.past then
              (match put n S.F o.dst v with|some F'=>regA call E ops ms n n0 sz rest (i+1) {S with F:=F',qs:=⟨i,(nth ms i).getD 0,o,S.F,v⟩::S.qs} |none=>none)else none
             |false=>(match put n S.F o.dst v with|some F'=>regA call E ops ms n n0 sz rest (i+1) {S with F:=F'} |none=>none))
           |none=>none)
         |none=>none))
def RS.es(S:RS):Lg:=(S.past.map (·.1)).reverse
def RS.cs(S:RS):List AH:=(S.G::S.past.map (·.2)).reverse
def RowP(call:bR)(E:Env)(ops:Array Oper)(ms:Lg)(n0:Nat)(past:List (Nat×AH))(es:Lg)(cs:List AH)(als:List Al)(qs:List Qu)(i:Nat)(o:Oper)(F:T Value)(v:Value):Prop:=
 (ct ops.toList F o=some false/\v=undef/\i ∉ es/\(∀x∈als,x.1≠i))∨
 (ct ops.toList F o=some true/\i ∉ es/\(∀x∈als,x.1≠i)/\(hdep o.op=true->⟨i,(nth ms i).getD 0,o,F,v⟩∈qs)/\
  ∀ (e:Nat) G,cs[e]? =some G->(∀(j:Nat) i',es[j]? =some i'->bit ms i i'=true->j<e)->(∀(j:Nat) i',es[j]? =some i'->j<e->bit ms i' i=false)->
    ∃H,bX ((nth ms i).getD 0) als G=some H/\quiet E H (rho E F (bH o.op)) o.type o.op=some v)∨
 (ct ops.toList F o=some true/\i ∉ es/\∃ ob fv,bT E (rho E F (bH o.op)) o.op=some (ob,fv)/\(i,n0+i,ob)∈als/\v=fv (n0+i))∨
 (ct ops.toList F o=some true/\(∀x∈als,x.1≠i)/\∃ (e:Nat),∃G G' H,es[e]? =some i/\cs[e]? =some G/\cs[e+1]? =some G'/\bX ((nth ms i).getD 0) als G=some H/\
  c7 call E H (rho E F (bH o.op)) o.op=some (v,G')/\∀ x∈als,∀ob,vis H x.2.1=some ob->∃ ob',vis G' x.2.1=some ob')
structure TRp (call:bR) (E:Env) (ops:Array Oper) (ms:Lg) (n n0:Nat) (F0:T Value) (A0:AH) (k:Nat) (S:RS) (fs:List (T Value)) (vs:Lh):Prop where
 fs0:fs[0]? =some F0
 fsk:fs[k]? =some S.F
 fsl:fs.length=k+1
 vsl:vs.length=k
 row:∀ i o,i<k->ops[i]? =some o->∃ F F' v,fs[i]? =some F/\fs[i+1]? =some F'/\vs[i]? =some v/\put n F o.dst v=some F'/\RowP call E ops ms n0 S.past S.es S.cs S.als S.qs i o F v
 es_lt:∀ x∈S.past,x.1<k
 es_eff:∀ x∈S.past,∃o,ops[x.1]? =some o/\gO E o.op=true
 es_inc:∀ (j j':Nat) i i',S.es[j]? =some i->S.es[j']? =some i'->j<j'->i<i'
 als_lt:∀ x∈S.als,x.1<k
 als_ok:AlsOk n0 ops.size S.als
 c0:S.cs[0]? =some A0
 cnx:∀ G∈(S.G::S.past.map (·.2)),n0+ops.size<=G.next
 qsl:∀ q∈S.qs,q.i<k
abbrev _root_.Go.J5:=@List.reverse_cons
theorem _root_.Go.JU:type_of% @Option.isSome_iff_exists:=@Option.isSome_iff_exists
abbrev _root_.Go.HO:=@List.mem_cons_of_mem
theorem yb{ρ:Operand->Lj}{a:Op}{ob:AObj}{fv:Nat->Value}(h:bT E ρ a=some (ob,fv)):ob.own=true:=by
 unfold bT at h;repeat' split at h
 all_goals first
  |(simp only[osI,Hs]at h;obtain⟨rfl,_⟩:=h;rfl)
  |(cases h;done)
  |skip
 all_goals
  simp only[cond_eq_ite]at h;split at h
  first
   |(simp only[osI,Hs]at h;obtain⟨rfl,_⟩:=h;rfl)
   | (split at h
      · simp only[osI,Hs]at h;obtain⟨rfl,_⟩:=h;rfl
      · cases h)
  cases h
section
variable {call:bR}{E:Env}{ops:Array Oper}{ms:Lg}{n n0:Nat}{F0:T Value}{A0:AH}{k:Nat}{S S':RS}{fs:List (T Value)}{vs:Lh}{o:Oper}{F':T Value}{v:Value}
theorem vM{S:RS}{i:Nat}:i∈S.es↔∃ x∈S.past,x.1=i:=by unfold RS.es;simp
theorem TRp.step(a:TRp call E ops ms n n0 F0 A0 k S fs vs)(r:ops[k]? =some o)(c:put n S.F o.dst v=some F')(s:S'.F=F')
 (h:∀ i o F v,i<k->ops[i]? =some o->RowP call E ops ms n0 S.past S.es S.cs S.als S.qs i o F v->RowP call E ops ms n0 S'.past S'.es S'.cs S'.als S'.qs i o F v)
 (d:RowP call E ops ms n0 S'.past S'.es S'.cs S'.als S'.qs k o S.F v)
 (C:∀ x∈S'.past,x.1<k+1) (B:∀ x∈S'.past,∃o,ops[x.1]? =some o/\gO E o.op=true) (A:∀ (j f:Nat) i i',S'.es[j]? =some i->S'.es[f]? =some i'->j<f->i<i')
 (z:∀ x∈S'.als,x.1<k+1) (y:AlsOk n0 ops.size S'.als) (w:S'.cs[0]? =some A0) (u:∀ G∈(S'.G::S'.past.map (·.2)),n0+ops.size<=G.next) (t:∀ q∈S'.qs,q.i<k+1):
 TRp call E ops ms n n0 F0 A0 (k+1) S' (fs++[F']) (vs++[v]):=by
 have g:∀ i,i<k+1->(fs++[F'])[i]? =fs[i]?:=λi l=>by rw[Ii,Ht (by rw[a.fsl];exact l)]
 have m:(fs++[F'])[k+1]? =some F':=by rw[Ii,Hm (by rw[a.fsl];omega),a.fsl];simp
 refine⟨?_,?_,?_,?_,?_,C,B,A,z,y,w,u,t⟩;rw[g 0 (by omega)];exact a.fs0;rw[m,s];simp[a.fsl];simp[a.vsl];intro i p l b;by_cases e:i=k;subst e;rw[r,osI]at b;subst b;refine⟨S.F,F',v,?_,m,?_,c,d⟩;rw[g i (by omega)];exact a.fsk;rw[Ii,Hm (by rw[a.vsl];omega),a.vsl];simp;obtain⟨M,L,v1,K,J,I,H,D⟩:=a.row i p (by omega) b;grind
theorem iQ{a:List Al}{q:Qu}:∀ {past:List (Nat×AH)},iR E a q past=true->∀ (e:Nat) G,(past.map (·.2)).reverse[e]? =some G->
 (∀(j:Nat) c,(past.map (·.1)).reverse[j]? =some c->q.m.testBit c=true->j<e)->fW E a G q=true
 | [],_,e,G,h,_=>by simp at h
 | (ie,Gb)::r,hp,e,G,h,hc=>by
  simp only[iR]at hp;simp only[Ia,J5]at h hc;have g:(r.map (·.1)).reverse.length=r.length:=by simp
  have d:(r.map (·.2)).reverse.length=r.length:=by simp
  have s:((r.map (·.1)).reverse++[ie])[r.length]? =some ie:=by grind
  have i:e<=r.length:=by grind
  have b:q.m.testBit ie=false:=by grind
  rw[b]at hp;simp only[HJ]at hp;cases f:fW E a Gb q;rw[f]at hp;simp at hp;rw[f]at hp;simp only[C']at hp;rw[Ii]at h;by_cases t:e<r.length;rw[Ht (by omega)]at h;exact iQ hp e G h λj c l p=>hc j c (by grind) p
  grind
theorem oc{a:List Al}{G:AH}{q:Qu}(h:fW E a G q=true):∃ H,bX q.m a G=some H/\quiet E H (rho E q.F (bH q.o.op)) q.o.type q.o.op=some q.v:=by grind [fW,Cf]
theorem lO{m i id:Nat}{ob:AObj}{a:List Al}{G:AH}(h:m.testBit i=false):bX m ((i,id,ob)::a) G=bX m a G:=by simp only[bX,h,HJ];cases bX m a G<;>rfl
theorem iv(ok:E.Ok)(sf:SF E ops ms)(b:n0+ops.size+1<2 ^ FU):∀ (l:List Oper) (k:Nat) (S:RS) (fs:List (T Value)) (vs:Lh) (S1:RS),TRp call E ops ms n n0 F0 A0 k S fs vs->
 (∀(i:Nat),i<l.length->ops[k+i]? =l[i]?)->k+l.length=ops.size->regA call E ops.toList ms n n0 ops.size l k S=some S1->∃ fs vs,TRp call E ops ms n n0 F0 A0 ops.size S1 fs vs
 | [],k,S,fs,vs,S1,tr,_,hk,h=>by simp only[regA,osI]at h;subst h;simp at hk;subst hk;exact⟨fs,vs,tr⟩
 | o ::rest,k,S,fs,vs,S1,tr,hl,hk,h=>by
  have ho:ops[k]? =some o:=by have:=hl 0 (by simp);simpa using this
  have hr:∀ (i:Nat),i<rest.length->ops[k+1+i]? =rest[i]?:=λi hi=>by have:=hl (i+1) (by simp;omega);grind
  have I:k+1+rest.length=ops.size:=by simp at hk;omega
  have c3:k<ops.size:=by omega
  have w:k ∉ S.es:=by rw[vM];rintro⟨x,a,e⟩;have:=tr.es_lt x a;omega
  have s:∀ x∈S.als,x.1≠k:=λx a=>by have:=tr.als_lt x a;omega
  have N:∀ x∈S.als,x.2.1+1<2 ^ FU:=λx a=>by have:=tr.als_ok.id x a;have:=tr.als_ok.lt x a;omega
  have d4:S.cs.length=S.es.length+1:=by simp[RS.cs,RS.es]
  have d3:S.es.length=S.past.length:=by simp[RS.es]
  simp only[regA]at h;cases M:ct ops.toList S.F o with
  |none=>rw[M]at h;cases h
  |some wb=>
  cases wb with
  |false=>rw[M]at h;simp only at h;split at h;rename_i F' f;refine iv ok sf b rest (k+1) _ _ _ S1 (tr.step (S':={S with F:=F'}) ho f rfl (λi o F v _ _ d=>d) (.inl ⟨M,rfl,w,s⟩) (λx a=>by have:=tr.es_lt x a;omega) tr.es_eff tr.es_inc (λx a=>by have:=tr.als_lt x a;omega) tr.als_ok tr.c0 tr.cnx (λq L=>by have:=tr.qsl q L;omega)) hr I h;cases h
  |true=>
  rw[M]at h;simp only at h;cases a1:gO E o.op with
  | true=>
   rw[a1]at h;simp only at h;split at h;rename_i H hH;split at h
   · rename_i v Q a6;cases P:(S.als.all (tQ H Q)&&(S.qs.all (λq=>((nth ms k).getD 0).testBit q.i||fW E S.als Q q)&&Nat.ble (n0+ops.size) Q.next))with
     |false=>rw[P]at h;simp at h
     |true=>
     rw[P]at h;simp only[C']at h;simp only[f',HV,HA,Iu]at P;obtain⟨b1,b2,b3⟩:=P;split at h;rename_i F' f;let S':RS:=⟨F',Q,(k,S.G)::S.past,S.als,S.qs⟩;have K:S'.es=S.es++[k]:=by simp[S',RS.es]
     have O:S'.cs=S.cs++[Q]:=by simp[S',RS.cs]
     have d5:S.cs[S.es.length]? =some S.G:=by simp only[RS.cs,RS.es,J5];grind
     have Y:∀ x∈S.als,∀U,vis H x.2.1=some U->∃ b4,vis Q x.2.1=some b4:=by grind [tQ,JU]
     refine iv ok sf b rest (k+1) S' _ _ S1 (tr.step (S':=S') ho f rfl ?_ ?_ ?_ ?_ ?_ (λx a=>by have:=tr.als_lt x a;omega) tr.als_ok ?_ ?_ (λq L=>by have:=tr.qsl q L;omega)) hr I h;intro i o1 F1 v1 hi a4 d;have b5:i≠k:=by omega
     have hE:∀ j V,S.es[j]? =some V->S'.es[j]? =some V:=λj V J=>by rw[K,Ii,Ht (Hx.1 J).1];exact J
     have hC:∀ (j:Nat) B,S.cs[j]? =some B->S'.cs[j]? =some B:=λj B J=>by grind
     have D:i ∉ S.es->i ∉ S'.es:=by rw[K];simp;exact λh=>⟨h,b5⟩
     rcases d with⟨u,t,z,C⟩|⟨u,t,z,C,r5⟩|⟨u,t,z⟩|⟨u,t,e,B,G2,H1,s1,s2,s3,s4,s5,s6⟩;exact .inl ⟨u,t,D z,C⟩;refine .inr (.inl ⟨u,D t,z,C,λe B g c1 c2=>?_⟩);rw[O,Ii]at g;by_cases he:e<S.cs.length;grind;rw[Hm he]at g;have c5:e=S.cs.length:=by grind
     subst c5;simp at g;subst g;have c4:S'.es[S.es.length]? =some k:=by grind
     have d9:bit ms k i=false:=c2 _ k c4 (by omega);cases a2:hdep o1.op with
     |true=>grind [bit,oc]
     |false=>obtain⟨H2,d0⟩:=gz (m:=(nth ms i).getD 0) S.als Q N;grind [Hx,jX]
     exact .inr (.inr (.inl ⟨u,D t,z⟩));exact .inr (.inr (.inr ⟨u,t,e,B,G2,H1,hE e i s1,hC e B s2,hC (e+1) G2 s3,s4,s5,s6⟩));· refine .inr (.inr (.inr ⟨M,s,S.es.length,S.G,Q,H,?_,?_,?_,hH,a6,Y⟩));all_goals grind
     intro x a;rcases HE.1 a with rfl|a;simp;have:=tr.es_lt x a;omega;intro x a;rcases HE.1 a with rfl|a;exact⟨o,ho,a1⟩;exact tr.es_eff x a;intro j j' i V J A a5;rw[K,Ii]at J A;by_cases c:j'<S.es.length;rw[Ht c]at A;rw[Ht (by omega)]at J;exact tr.es_inc j j' i V J A a5;rw[Hm c]at A;have e1:j'=S.es.length:=by grind
     subst e1;simp at A;subst A;rw[Ht a5]at J;have:=HR J;rw[vM]at this;obtain⟨x,a,rfl⟩:=this;exact tr.es_lt x a;rw[O,Ii,Ht (by omega)];exact tr.c0;intro B g;rcases HE.1 g with rfl|g;exact b3;exact tr.cnx B g;cases h
   cases h;cases h
  |false=>
  rw[a1]at h;simp only at h;split at h;rename_i U fv b0;cases P:((vis S.G (n0+k)).isNone&&S.past.all (λp=>(vis p.2 (n0+k)).isNone));rw[P]at h;simp at h;rw[P]at h;simp only[C']at h;simp only[f',HV,Option.isNone_iff_eq_none]at P;have d6:∀ G∈S.cs,vis G (n0+k)=none:=by intro G hG;simp only[RS.cs,List.mem_reverse,HE,Hn]at hG;grind
  split at h;rename_i F' f;have a3:U.own=true:=yb b0;have a9:AlsOk n0 ops.size ((k,n0+k,U)::S.als):=by refine⟨?_,?_,?_,?_⟩;intro x a;rcases HE.1 a with rfl|a;rfl;exact tr.als_ok.id x a;intro x a;rcases HE.1 a with rfl|a;exact c3;exact tr.als_ok.lt x a;intro x a;rcases HE.1 a with rfl|a;exact a3;exact tr.als_ok.own x a;intro x a y hy e;rcases HE.1 a with rfl|a<;>rcases HE.1 hy with rfl|hy;rfl;exact absurd e.symm (s y hy);exact absurd e (s x a);exact tr.als_ok.uniq x a y hy e
  refine iv ok sf b rest (k+1) _ _ _ S1 (tr.step (S':={S with F:=F',als:=(k,n0+k,U)::S.als}) ho f rfl ?_ ?_ (λx a=>by have:=tr.es_lt x a;omega) tr.es_eff tr.es_inc ?_ a9 tr.c0 tr.cnx (λq L=>by have:=tr.qsl q L;omega)) hr I h;intro i o1 F1 v1 hi a4 d;have a8:((nth ms i).getD 0).testBit k=false:=by cases hc:((nth ms i).getD 0).testBit k;rfl;have:=sf.low i (by omega) k hc;omega
  have X:∀ x∈(k,n0+k,U)::S.als,(∀y∈S.als,y.1≠i)->x.1≠i:=by grind
  rcases d with⟨u,t,z,C⟩|⟨u,t,z,C,r5⟩|⟨u,t,R,d2,z,C,r5⟩|⟨u,t,e,B,G2,H1,s1,s2,s3,s4,s5,s6⟩;exact .inl ⟨u,t,z,λx a=>X x a C⟩;refine .inr (.inl ⟨u,t,λx a=>X x a z,C,λe B g c1 c2=>?_⟩);obtain⟨H1,e0,d7⟩:=r5 e B g c1 c2;grind [lO];exact .inr (.inr (.inl ⟨u,t,R,d2,z,HO _ C,r5⟩));refine .inr (.inr (.inr ⟨u,λx a=>X x a t,e,B,G2,H1,s1,s2,s3,by rw[lO a8];exact s4,s5,?_⟩));intro x a R hv;rcases HE.1 a with rfl|a;exfalso;obtain⟨_,t2,_,_⟩:=fQ s4 (λy hy=>AObj.here_of_own (tr.als_ok.own y hy));grind;exact s6 x a R hv;exact .inr (.inr (.inl ⟨M,w,U,fv,b0,by simp,rfl⟩));intro x a;rcases HE.1 a with rfl|a;simp;have:=tr.als_lt x a;omega;cases h;split at h;rename_i H hH;split at h;rename_i v L;have a7:∀ (e:Nat) G,S.cs[e]? =some G->(G=S.G/\e=S.es.length)∨(e<S.es.length/\(S.past.map (·.2)).reverse[e]? =some G):=by intro e G hG;simp only[RS.cs,J5]at hG;grind
  split at h;rename_i a2;cases a0:iR E S.als ⟨k,(nth ms k).getD 0,o,S.F,v⟩ S.past;rw[a0]at h;simp at h;rw[a0]at h;simp only[C']at h;split at h;rename_i F' f;refine iv ok sf b rest (k+1) _ _ _ S1 (tr.step (S':={S with F:=F',qs:=⟨k,(nth ms k).getD 0,o,S.F,v⟩::S.qs}) ho f rfl ?_ ?_ (λx a=>by have:=tr.es_lt x a;omega) tr.es_eff tr.es_inc (λx a=>by have:=tr.als_lt x a;omega) tr.als_ok tr.c0 tr.cnx ?_) hr I h;intro i o1 F1 v1 hi a4 d;rcases d with r|⟨u,t,z,C,r5⟩|r|r;exact .inl r;exact .inr (.inl ⟨u,t,z,λhd=>HO _ (C hd),r5⟩);exact .inr (.inr (.inl r));exact .inr (.inr (.inr r));refine .inr (.inl ⟨M,w,s,λ_=>by simp,λe G hG c1 c2=>?_⟩);rcases a7 e G hG with⟨rfl,rfl⟩|⟨he,d1⟩;exact⟨H,hH,L⟩;exact oc (iQ a0 e G d1 λj V J c6=>c1 j V J c6);intro q Z;rcases HE.1 Z with rfl|Z;simp;have:=tr.qsl q Z;omega;cases h;rename_i a2;split at h;rename_i F' f;refine iv ok sf b rest (k+1) _ _ _ S1 (tr.step (S':={S with F:=F'}) ho f rfl (λi o F v _ _ d=>d) ?_ (λx a=>by have:=tr.es_lt x a;omega) tr.es_eff tr.es_inc (λx a=>by have:=tr.als_lt x a;omega) tr.als_ok tr.c0 tr.cnx (λq L=>by have:=tr.qsl q L;omega)) hr I h;refine .inr (.inl ⟨M,w,s,(λhd=>by rw[a2]at hd;cases hd),λe G hG c1 c2=>?_⟩);obtain⟨H2,d0⟩:=gz (m:=(nth ms k).getD 0) S.als G N;grind [jX];cases h;cases h;cases h
end
theorem _root_.Go.Jc:type_of% @List.range_eq_range':=@List.range_eq_range'
abbrev _root_.Go.JZ:=@Go.wp_loop_rounds
variable {A:AH}{E:Env}{n:Nat}{P:Program}{σ:Sig}{F:T Value}{w:World}
def qf(call:bR)(E:Env)(ops:Array Oper)(n:Nat)(F:T Value)(A:AH):Option (T Value×AH):=
 let l:=ops.toList
 let sz:=l.length
 bif Nat.blt (A.next+sz+1) 1099511627776 then
  (match regA call E l (fj l []) n A.next sz l 0 ⟨F,⟨A.t,A.next+sz⟩,[],[],[]⟩with
  |some S=>(match bX (2 ^ sz-1) S.als S.G with|some A'=>some (S.F,A')|none=>none)
  |none=>none)else none
theorem sj(z:E.Ok){c:bR}(V:fJ E c){ops:Array Oper}(e:nU E ops=true){C:T Value}{A':AH}(h:qf c E ops n F A=some (C,A'))
 {a:Act}(R:Rel E.P σ A w) (U:Glob E σ) (Z:FR σ F n a) {id:Nat}{Q:Exit->Act->World->Prop}
 (Y:∀ B w' σ',FR σ' C n B->Rel E.P σ' A' w'->Ext σ A w σ' A' w'->Q .normal B w'):(Code.region id ops true).wp E.P Q a w:=by
 unfold qf at h;simp only at h;have g:ops.toList.length=ops.size:=by simp
 rw[g]at h;cases k:Nat.blt (A.next+ops.size+1) 1099511627776 with
 |false=>rw[k]at h;simp at h
 |true=>
 rw[k]at h;simp only[C']at h;rw[blt_eq,HL]at k;split at h;rename_i S X;split at h
 · rename_i A2 hA2;cases h;have H:=sf_of e;have f:(2:Nat) ^ FU=1099511627776:=by decide
   have m:TRp c E ops (fj ops.toList []) n A.next F ⟨A.t,A.next+ops.size⟩ 0 ⟨F,⟨A.t,A.next+ops.size⟩,[],[],[]⟩ [F] []:=⟨rfl,rfl,rfl,rfl,λi o u=>by omega,λx b=>by simp at b,λx b=>by simp at b,λj j' i i' s=>by simp[RS.es]at s,λx b=>by simp at b,⟨λx b=>by simp at b,λx b=>by simp at b,λx b=>by simp at b,λx b=>by simp at b⟩,rfl,λG l=>by simp at l;subst l;exact Hw _,λq N=>by simp at N⟩
   obtain⟨fs,D,d⟩:=iv z H (by rw[f];exact k) ops.toList 0 _ _ _ S m (λi u=>by simp) (by simp) X;have y:S.cs[S.es.length]? =some S.G:=by simp only[RS.cs,RS.es,J5];grind
   have p:TR c E ops (fj ops.toList []) n A.next F fs D S.cs S.es S.als:=by
    refine⟨d.fs0,λi o O=>?_,λj i s=>?_,d.es_inc,d.als_ok,by simp[RS.cs,RS.es],λG l=>d.cnx G (by simpa[RS.cs,or_comm]using l)⟩
    · have u:i<ops.size:=by grind
      obtain⟨F1,F2,v,M,L,K,J,I⟩:=d.row i o u O;refine⟨F1,F2,v,M,L,K,J,?_⟩;rcases I with r|⟨q1,q2,q3,q4,q5⟩|r|r;all_goals grind
    have:=HR s;rw[vM]at this;obtain⟨x,b,rfl⟩:=this;exact d.es_eff x b
   exact u9 z V e p d.c0 y d.fsk hA2 R U Z Y
 cases h;cases h
inductive Ex where
 |normal
 |exit (id:Nat)
 |ret
def Ex.of:Ex->Exit
 | .normal=>.normal
 | .exit id=>.exit id
 | .ret=>.ret
def b8:Lh->Nat->T Value->Option (T Value)
 | [],_,F=>some F
 |v::l,i,F=>match T.set FU F i v with|some F'=>b8 l (i+1) F'|none=>none
theorem ez:∀ {l:Lh}{i:Nat}{F a:T Value},b8 l i F=some a->∀ t,a.get t=if i<=t/\t<i+l.length then l[t-i]? else F.get t
 | [],i,F,a,h,t=>by simp only[b8,osI]at h;subst h;rw[Hm (by simp)]
 |v::l,i,F,a,h,t=>by simp only[b8]at h;split at h;rename_i d c;have b:=ez h t;rw[b,H6 c];grind;cases h
def resA(E:Env)(A:AH)(F:T Value):ResultVar->Lj
 | .tmp t=>slot F t
 | .cell a t=>(match slot F a with|some p=>vU E A t p|none=>none)
def cz(E:Env)(A:AH)(F:T Value)(rs:List ResultVar):Lj:=
 match mapO (resA E A F) rs with
 |some [v]=>some v
 |some vs=>some (.tuple ⟨vs⟩)
 |none=>none
def iK(E:Env)(rec:Code->Nat->T Value->AH->Option (Ex×T Value×AH)):bR:=λf args A=>
 match E.fn f with
 | some fn=>(match fn.body,b8 args 0 .leaf with
   | some c,some F=>bif Nat.ble args.length fn.ntmps then(match rec c fn.ntmps F A with
     |some (.exit _,_,_)=>none
     |some (_,F',A')=>(match cz E A' F' fn.results.toList with|some v=>some (v,A')|none=>none)
     |none=>none)else none
   |_,_=>none)
 |none=>none
def evC(E:Env):Nat->Code->Nat->T Value->AH->Option (Ex×T Value×AH)
 |0,_,_,_,_=>none
 | k +1,c,n,F,A=>
   match c with
   | .skip=>some (.normal,F,A)
   | .label _=>some (.normal,F,A)
   | .region _ ops draw=>(match draw with
     |false=>(match kw (iK E (evC E k)) E ops.toList n ops.toList F A with|some (F',A')=>some (.normal,F',A')|none=>none)
     |true=>(match qf (iK E (evC E k)) E ops n F A with|some (F',A')=>some (.normal,F',A')|none=>none))
   | .seq x y=>(match evC E k x n F A with
     |some (.normal,F',A')=>evC E k y n F' A'
     |r=>r)
   | .cond b x y=>(match ev E F b with
     |some (.bool true)=>evC E k x n F A
     |some (.bool false)=>evC E k y n F A
     |_=>none)
   | .block id b=>(match evC E k b n F A with
     |some (.exit id',F',A')=>bif Nat.beq id' id then some (.normal,F',A')else some (.exit id',F',A')
     |r=>r)
   | .loop b=>(match evC E k b n F A with
     |some (.normal,F',A')=>evC E k (.loop b) n F' A'
     |r=>r)
   | .scope b=>evC E k b n F A
   | .exit id=>some (.exit id,F,A)
   | .ret=>some (.ret,F,A)
   |_=>none
def bM(E:Env):Code->Bool
 | .region _ ops draw=> !draw||nU E ops
 | .seq x y=>bM E x&&bM E y
 | .cond _ x y=>bM E x&&bM E y
 | .block _ b| .loop b| .scope b=>bM E b
 |_=>true
def resM(tmps:Array Value):ResultVar->Sem Value
 | .tmp t=>pure (tmps.getD t undef)
 | .cell a t=>do loadVar t (<-asAddr (tmps.getD a undef))
theorem res_ok(e:E.Ok)(R:Rel E.P σ A w){a:Act}(c:FR σ F n a){r:ResultVar}{v:Value}(h:resA E A F r=some v):
 ∃v',(resM a.tmps r).run E.P w=.ok v' w/\VR σ v v':=by
 cases r with
 |tmp t=>exact⟨_,rfl,c.val t v h⟩
 |cell x t=>
 simp only[resA]at h;split at h;rotate_left;cases h;rename_i z g;have b:=c.val x z g;obtain⟨v',d,j⟩:=vR e R b h;refine⟨v',?_,j⟩;simp only[resM,HB];generalize a.tmps.getD x undef=y at b d;unfold vU at h;split at h;cases b with
 |ptr i f=>simpa[Instr.loadAt,Instr.sureAddr,asAddr]using d
 cases h
theorem gh{E:Env}(e:E.Ok){σ:Sig}{A:AH}{w:World}(R:Rel E.P σ A w){F:T Value}{n:Nat}{a:Act}(f:FR σ F n a):∀ {c:List ResultVar}{vs:Lh},mapO (resA E A F) c=some vs->
 ∃vs',(c.mapM (resM a.tmps)).run E.P w=.ok vs' w/\VRs σ vs vs'
 | [],vs,h=>by simp[mapO]at h;subst h;exact⟨[],by simp,.nil⟩
 | r::c,vs,h=>by
  simp only[mapO]at h;cases d:resA E A F r with
  |none=>simp[d]at h
  |some v=>
  cases b:mapO (resA E A F) c with
  |none=>simp[d,b]at h
  |some l=>simp only[d,b,osI]at h;subst h;obtain⟨g,o,m⟩:=res_ok e R f d;obtain⟨i,k,j⟩:=gh e R f b;exact⟨g::i,by simp[List.mapM_cons,o,k],.cons m j⟩
theorem iu(j:E.Ok)(R:Rel E.P σ A w){a:Act}(k:FR σ F n a){fn:Func}{v:Value}(h:cz E A F fn.results.toList=some v):
 ∃v',(results fn a.tmps).run E.P w=.ok v' w/\VR σ v v':=by
 have e:results fn a.tmps=(do let c <-fn.results.mapM (resM a.tmps);pure (if h:c.size=1 then c[0]else .tuple c)):=by unfold results;congr 1
 rw[e];unfold cz at h;split at h;rename_i u g;cases h;obtain⟨b,i,d⟩:=gh j R k g;cases d with
 |cons l t=>cases t;rename_i v';refine⟨v',?_,l⟩;simp[Array.mapM_eq_mapM_toList,i]
 rename_i c f g;cases h;obtain⟨b,i,d⟩:=gh j R k g;refine⟨.tuple ⟨b⟩,?_,.tuple d⟩;have o:¬ b.length=1:=by rw[d.length];intro p;obtain⟨u,m⟩:=List.length_eq_one_iff.1 p;subst m;exact f u rfl
 simp[Array.mapM_eq_mapM_toList,i,o];cases h
def CodeS(E:Env)(k:Nat):Prop:=∀ c,bM E c=true->∀ n F A ex F' A',evC E k c n F A=some (ex,F',A')->∀ σ a w,Rel E.P σ A w->Glob E σ->FR σ F n a->
 ∀Q:Exit->Act->World->Prop,(∀a' w' σ',FR σ' F' n a'->Rel E.P σ' A' w'->Ext σ A w σ' A' w'->Q ex.of a' w')->c.wp E.P Q a w
def LoopS(E:Env)(k:Nat):Prop:=∀ c,bM E c=true->∀ n F A ex F' A',evC E k (.loop c) n F A=some (ex,F',A')->∀ σ a w,Rel E.P σ A w->Glob E σ->FR σ F n a->
 ∀Q:Exit->Act->World->Prop,(∀a' w' σ',FR σ' F' n a'->Rel E.P σ' A' w'->Ext σ A w σ' A' w'->Q ex.of a' w')->Code.rounds E.P c Q k a w
def ut(E:Env):Prop:=∀ f fn c,E.fn f=some fn->fn.body=some c->bM E c=true
theorem qr(L:E.Ok)(Z:ut E){k:Nat}(X:CodeS E k):fJ E (iK E (evC E k)):=by
 intro f s A v I h σ w b R Y N;unfold iK at h;split at h;rename_i o B;split at h;rename_i c F i l;cases C:Nat.ble s.length o.ntmps;rw[C]at h;simp at h;rw[C]at h;simp only[C']at h;have C:=IF C;have M:=N.length;have G:FR σ F o.ntmps {tmps:=(⟨b⟩:Array Value)++Array.replicate (o.ntmps-(⟨b⟩:Array Value).size) undef,defers:=[]}:=by refine⟨by simp;omega,λt u0 g=>?_,rfl⟩;unfold slot at g;rw[ez l t]at g;simp only;rw[H8,JG];by_cases ht:t<s.length;rw[Ht ⟨Jp _,by omega⟩,Kd]at g;rw[Ht (by simp;omega)];obtain⟨u,h1,h2⟩:=N.get g;grind;rw[Hm (by omega)]at g;cases g
 have H:∀ (r:Ex) (y:T Value) (p:AH),r.of=.normal∨r.of=.ret->evC E k c o.ntmps F A=some (r,y,p)->(match cz E p y o.results.toList with|some v=>some (v,p)|none=>none)=some (v,I)->
  Calls E.P f ⟨b⟩ w (λe j=>∃ q a,e=.returned q/\VR a v q/\Rel E.P a I j/\Ext σ A w a I j):=by
  intro r y p m x d
  split at d
  · rename_i u V
    simp only[osI,Hs]at d
    obtain⟨rfl,rfl⟩:=d
    refine calls_of_wp (L.fn f o B) i (X c (Z f o c B i) o.ntmps F A r y p x σ _ w R Y G _ λO j a K J U=>?_)
    obtain⟨q,S,Q⟩:=iu L J K V
    have z:O.defers=[]/\∃ v,(results o O.tmps).run E.P j=.ok v j/\(λe j=>∃ q a,e=Ending.returned q/\VR a u q/\Rel E.P a p j/\Ext σ A w a p j) (.returned v) j:=
     ⟨K.defers,q,S,q,a,rfl,Q,J,U⟩
    rcases m with m|m<;>rw[m]<;>exact z
  · cases d
 split at h;cases h;rename_i r y p D x;refine H r y p ?_ x h;cases r with
 |normal=>exact .inl rfl
 |ret=>exact .inr rfl
 |exit id=>exact absurd rfl (λe=>D id e)
 cases h;cases h;cases h
theorem m8{E:Env}(X:E.Ok)(hf:ut E):∀ k,CodeS E k/\LoopS E k
 |0=>⟨λc _ n F A H K L h=>by simp[evC]at h,λc _ n F A H K L h=>by simp[evC]at h⟩
 | k +1=>by
  obtain⟨o,a0⟩:=m8 X hf k;have G:=qr X hf o;have hL:LoopS E (k+1):=by
   intro c u n F A H K L h σ a w R C v Q j;simp only[evC]at h;show c.wp E.P (Exit.then (Code.rounds E.P c Q k) Q) a w;cases g:evC E k c n F A with
   |none=>simp[g]at h
   |some r=>
   obtain⟨p,I,J⟩:=r;refine o c u n F A p I J g σ a w R C v _ λB q d t s m=>?_;have D:=Ext.sub R m;cases p with
   |normal=>simp only[g]at h;exact a0 c u n I J H K L h d B q s (C.sub D) t Q λa2 w2 M p1 p2 p3=>j a2 w2 M p1 p2 (m.trans p3)
   |exit id=>simp only[g,osI,Hs]at h;obtain⟨rfl,rfl,rfl⟩:=h;exact j B q d t s m
   |ret=>simp only[g,osI,Hs]at h;obtain⟨rfl,rfl,rfl⟩:=h;exact j B q d t s m
  refine⟨?_,hL⟩;intro c u n F A H K L h σ a w R C v Q j;cases c with
  |skip=>simp only[evC,osI,Hs]at h;obtain⟨rfl,rfl,rfl⟩:=h;exact wp_skip (j a w σ v R (Ext.refl _ _ _))
  |label l=>simp only[evC,osI,Hs]at h;obtain⟨rfl,rfl,rfl⟩:=h;exact wp_label (j a w σ v R (Ext.refl _ _ _))
  |region id N V=>simp only[evC]at h;cases V;simp only at h;split at h;rename_i I J S;simp only[osI,Hs]at h;obtain⟨rfl,rfl,rfl⟩:=h;refine wp_region ?_;have:=jq X G (ops:=N) (Q:=Q) N.toList 0 F I A J σ a w S (λi hi=>by simp) R C v (λa' w' Z t s m=>j a' w' Z t s m);grind [Jc];cases h;simp only at h;split at h;rename_i I J S;simp only[osI,Hs]at h;obtain⟨rfl,rfl,rfl⟩:=h;exact sj X G (by simpa[bM]using u) S R C v j;cases h
  | seq x y=>
   simp only[bM,f']at u;simp only[evC]at h;refine wp_seq ?_;cases g:evC E k x n F A with
   |none=>simp[g]at h
   |some r=>
   obtain⟨p,I,J⟩:=r;refine o x u.1 n F A p I J g σ a w R C v _ λB q d t s m=>?_;have D:=Ext.sub R m;cases p with
   |normal=>simp only[g]at h;exact o y u.2 n I J H K L h d B q s (C.sub D) t Q λa2 w2 M p1 p2 p3=>j a2 w2 M p1 p2 (m.trans p3)
   |exit id=>simp only[g,osI,Hs]at h;obtain⟨rfl,rfl,rfl⟩:=h;exact j B q d t s m
   |ret=>simp only[g,osI,Hs]at h;obtain⟨rfl,rfl,rfl⟩:=h;exact j B q d t s m
  | cond b x y=>
   simp only[bM,f']at u;simp only[evC]at h;split at h;rename_i g;have U:=oC C v.val b _ g;have e:a.eval b=.bool true:=by generalize a.eval b=z at U;cases U;rfl
   exact wp_cond_true e (o x u.1 n F A H K L h σ a w R C v Q j);rename_i g;have U:=oC C v.val b _ g;have e:a.eval b=.bool false:=by generalize a.eval b=z at U;cases U;rfl
   exact wp_cond_false e (o y u.2 n F A H K L h σ a w R C v Q j);cases h
  | block id b=>
   simp only[bM]at u;simp only[evC]at h;refine wp_block ?_;cases g:evC E k b n F A with
   |none=>simp[g]at h
   |some r=>
   obtain⟨p,I,J⟩:=r;refine o b u n F A p I J g σ a w R C v _ λB q d t s m=>?_;cases p with
   |normal=>simp only[g,osI,Hs]at h;obtain⟨rfl,rfl,rfl⟩:=h;exact j B q d t s m
   | exit O=>
    simp only[g]at h;show(if O=id then Q .normal B q else Q (.exit O) B q);cases Y:Nat.beq O id with
    |true=>rw[Y]at h;simp only[C',osI,Hs]at h;obtain⟨rfl,rfl,rfl⟩:=h;rw[Ht (Ho Y)];exact j B q d t s m
    |false=>rw[Y]at h;simp only[HJ,osI,Hs]at h;obtain⟨rfl,rfl,rfl⟩:=h;rw[Hm (aZ Y)];exact j B q d t s m
   |ret=>simp only[g,osI,Hs]at h;obtain⟨rfl,rfl,rfl⟩:=h;exact j B q d t s m
  |loop b=>simp only[bM]at u;exact JZ (k+1) (hL b u n F A H K L h σ a w R C v Q j)
  |scope b=>simp only[bM]at u;simp only[evC]at h;refine wp_scope_straight (o b u n F A H K L h σ a w R C v _ λB q d t s m=>?_);have:=j B q d t s m;cases H<;>exact this
  |exit id=>simp only[evC,osI,Hs]at h;obtain⟨rfl,rfl,rfl⟩:=h;exact wp_exit (j a w σ v R (Ext.refl _ _ _))
  |ret=>simp only[evC,osI,Hs]at h;obtain⟨rfl,rfl,rfl⟩:=h;exact wp_ret (j a w σ v R (Ext.refl _ _ _))
  |rangeFunc f ps x b=>simp[evC]at h
  |goto l=>simp[evC]at h
  |refuse a3=>simp[evC]at h
def sig0(w:World):Sig:=⟨λ_=>none,λb=>w.heap[b]?,λ_=>False⟩
theorem rel0(P:Program)(w:World):Rel P (sig0 w) ⟨.leaf,0⟩ w:=
 ⟨λB o h=>by simp[T.get]at h,λB d o c x a h=>by simp[T.get]at h,(λB x h=>by cases h),λB h=>rfl,λb o h=>h,λB o x h=>by simp[T.get]at h,λ_ h=>h.elim⟩
theorem _root_.Go.I1:type_of% @Int.ofNat_eq_natCast:=@Int.ofNat_eq_natCast
def ltI(x y:Int):Bool:=
 match x with
 | .ofNat a=>(match y with| .ofNat b=>Nat.blt a b| .negSucc _=>false)
 | .negSucc a=>(match y with| .ofNat _=>true| .negSucc b=>Nat.blt b a)
theorem oh(x y:Int):ltI x y=decide (x<y):=by
 rw[Ir,HL];cases x with
 | ofNat a=>
  cases y with
  |ofNat b=>simp only[ltI,blt_eq,HL,I1];omega
  |negSucc b=>grind [ltI,I1]
 |negSucc a=>
 cases y with
 |ofNat b=>simp only[ltI,I1,true_iff];omega
 |negSucc b=>simp only[ltI,blt_eq,HL];omega
def eqI(x y:Int):Bool:=
 match x with
 | .ofNat a=>(match y with| .ofNat b=>Nat.beq a b| .negSucc _=>false)
 | .negSucc a=>(match y with| .ofNat _=>false| .negSucc b=>Nat.beq a b)
theorem sq(x y:Int):eqI x y=decide (x=y):=by
 rw[Ir,HL];cases x with
 | ofNat a=>
  cases y with
  |ofNat b=>simp only[eqI,beq_eq,HL,I1];omega
  |negSucc b=>grind [eqI,I1]
 |negSucc a=>
 cases y with
 |ofNat b=>grind [eqI,I1]
 |negSucc b=>simp only[eqI,beq_eq,HL];omega
def kX(s:Int):Bool:=
 match s with
 | .ofNat a=>Nat.ble a 4611686018427387903
 | .negSucc a=>Nat.ble a 4611686018427387903
theorem uP(s:Int):kX s=fR s:=by
 unfold kX fR;rw[Ir];cases s with
 |ofNat a=>simp only[HA,f',HL,I1];omega
 |negSucc a=>simp only[HA,f',HL];omega
def pack(b:Bool)(s:Int):Lj:=Bool.rec none (some (.int .i64 s)) b
def two64(f:Int->Int->Lj)(a b:Value):Lj:=
 match a with
 | .int k x=>(match k with| .i64=>(match b with| .int k' y=>(match k' with| .i64=>f x y|_=>none)|_=>none)|_=>none)
 |_=>none
def twoC(f:Int->Int->Lj)(g:List UInt8->List UInt8->Lj)(a b:Value):Lj:=
 match a with
 | .int k x=>(match k with
   | .i64=>(match b with| .int k' y=>(match k' with| .i64=>f x y|_=>none)|_=>none)
   | .u8=>(match b with| .int k' y=>(match k' with| .u8=>f x y|_=>none)|_=>none)
   |_=>none)
 | .string x=>(match b with| .string y=>g x.data.toList y.data.toList|_=>none)
 |_=>none
def twoS(f:Int->Int->Lj)(g:List UInt8->List UInt8->Lj)(a b:Value):Lj:=
 match a with
 | .int k x=>(match k with| .i64=>(match b with| .int k' y=>(match k' with| .i64=>f x y|_=>none)|_=>none)|_=>none)
 | .string x=>(match b with| .string y=>g x.data.toList y.data.toList|_=>none)
 |_=>none
def addF(x y:Int):Lj:=pack (kX (x+y)) (x+y)
def subF(x y:Int):Lj:=pack (kX (x-y)) (x-y)
def mulF(x y:Int):Lj:=pack (kX (x*y)) (x*y)
def bo(b:Bool):Lj:=some (.bool b)
def catS(x y:List UInt8):Lj:=strO .add x y
def BK(op:BinOp):Value->Value->Lj:=
 match op with
 | .add=>twoS addF catS
 | .sub=>two64 subF
 | .mul=>two64 mulF
 | .eql=>twoC (λx y=>bo (eqI x y)) (λx y=>bo (eqL x y))
 | .neq=>twoC (λx y=>bo (!eqI x y)) (λx y=>bo (!eqL x y))
 | .lss=>twoC (λx y=>bo (ltI x y)) (λx y=>bo (ltL x y))
 | .leq=>twoC (λx y=>bo (!ltI y x)) (strO .leq)
 | .gtr=>twoC (λx y=>bo (ltI y x)) (strO .gtr)
 | .geq=>twoC (λx y=>bo (!ltI x y)) (strO .geq)
 |_=>λ_ _=>none
theorem pz(s:Int):pack (kX s) s=(bif fR s then some (.int .i64 s)else none):=by unfold pack;rw[uP];cases fR s<;>rfl
theorem vD(x y:Int):(!ltI y x)=decide (x<=y):=by rw[oh,Ir];simp
theorem zE(x y:Int):bo (!ltI y x)=some (.bool (decide (x<=y))):=by rw[vD];rfl
theorem xV(c:BinOp)(a b:Value):BK c a b=gu c a b:=by
 cases a with
 | int k x=>
  cases k with
  | i64=>
   cases b with
   | int d y=>
    cases d with
    | i64=>
     cases c with
     |add=>exact pz _
     |sub=>exact pz _
     |mul=>exact pz _
     |eql=>show bo (eqI x y)=some (.bool (decide (x=y)));rw[sq];rfl
     |neq=>show bo (!eqI x y)=some (.bool (!decide (x=y)));rw[sq];rfl
     |lss=>show bo (ltI x y)=some (.bool (decide (x<y)));rw[oh];rfl
     |leq=>exact zE x y
     |gtr=>show bo (ltI y x)=some (.bool (decide (y<x)));rw[oh];rfl
     |geq=>exact zE y x
     |_=>rfl
    |_=>cases c<;>rfl
   |_=>cases c<;>rfl
  | u8=>
   cases b with
   | int d y=>
    cases d with
    | u8=>
     cases c with
     |eql=>show bo (eqI x y)=some (.bool (decide (x=y)));rw[sq];rfl
     |neq=>show bo (!eqI x y)=some (.bool (!decide (x=y)));rw[sq];rfl
     |lss=>show bo (ltI x y)=some (.bool (decide (x<y)));rw[oh];rfl
     |leq=>exact zE x y
     |gtr=>show bo (ltI y x)=some (.bool (decide (y<x)));rw[oh];rfl
     |geq=>exact zE y x
     |_=>rfl
    |_=>cases c<;>rfl
   |_=>cases c<;>rfl
  |_=>cases c<;>cases b<;>rfl
 |string x=>cases b<;>cases c<;>rfl
 |_=>cases c<;>rfl
def evSel(x:Operand):Env->T Value->Lj:=
 match x with
 | .tmp t=>λ_ F=>F.get t
 | .const v=>λ_ _=>bif flat v then some v else none
 | .global g=>λE _=>(match E.gl g with|some cs=>some (plc cs)|none=>none)
 | .func f=>λ_ _=>some (.func (.func f) ⟨[]⟩ ⟨[]⟩)
theorem zY(E:Env)(F:T Value)(x:Operand):evSel x E F=ev E F x:=by
 cases x with
 |_=>rfl
def oV(A:AH)(o:Lj):Option (Value×AH):=Option.rec none (λv=>some (v,A)) o
def oS(o:Option AH):Option (Value×AH):=Option.rec none (λA=>some (undef,A)) o
def pickV(ρ:Operand->Lj)(a b:Operand)(c:Lj):Lj:=
 match c with
 |some (.bool t)=>(match t with|true=>ρ a|false=>ρ b)
 |_=>none
def nilV(o:Lj):Lj:=match o with|some v=>bif nnil v then some v else none|none=>none
def slow(E:Env)(op:BinOp)(t:TypeId)(x y:Operand)(a b:Value):Lj:=
 bif flat a&&flat b then(match prun E.P (do eqGuard op t x y a b;binOp op t a b)with|some v=>bif flat v then some v else none|none=>none)
 else bif vF E t a b then(match op with| .eql=>some (.bool false)| .neq=>some (.bool true)|_=>none)
 else bif sameP E t a b then(match op with| .eql=>some (.bool true)| .neq=>some (.bool false)|_=>none)
 else none
def AY(E:Env)(c:BinOp)(t:TypeId)(x y:Operand)(a b:Value)(o:Lj):Lj:=Option.rec (slow E c t x y a b) (λv=>some v) o
def binV(E:Env)(op:BinOp)(t:TypeId)(x y:Operand)(a b:Lj):Lj:=
 match a with
 |some a=>(match b with|some b=>AY E op t x y a b (BK op a b)|none=>none)
 |none=>none
theorem GR(E:Env)(c:BinOp)(t:TypeId)(x y:Operand)(a b:Lj):binV E c t x y a b=(match a,b with|some a,some b=>binA E c t x y a b|_,_=>none):=by
 cases a<;>cases b<;>try rfl
 rename_i a b;simp only[binV,AY,binA,xV];cases gu c a b<;>rfl
def s8(f:Value->Lj)(o:Lj):Lj:=Option.rec none f o
def s7(f:Value->Value->Lj)(a b:Lj):Lj:=Option.rec none (λa=>Option.rec none (f a) b) a
def callS(call:bR)(E:Env)(A:AH)(g:FuncId)(args:Lh):Option (Value×AH):=
 match E.fn g with
 |some _=>call g args A
 | none=>(match E.ext g with
   |some x=>x args A
   |none=>none)
def callV(call:bR)(E:Env)(A:AH)(f:Lj)(as:Option Lh):Option (Value×AH):=
 match f,as with
 |some (.func (.func g) ⟨first⟩ ⟨cap⟩),some as=>callS call E A g (first++as++cap)
 |_,_=>none
def orEff(e q:Option (Value×AH)):Option (Value×AH):=Option.rec e (λr=>some r) q
def qt(c:Call):bR->Env->AH->(Operand->Lj)->TypeId->Option (Value×AH):=
 match c.callee with
 | .value f=>λcall E A ρ _=>callV call E A (ρ f) (mapO ρ c.args.toList)
 | .builtin b=>λ_ E A ρ ty=>orEff (effB E A ρ b c) (oV A (jY E A ρ b c ty))
 | .invoke r m=>λcall E A ρ ty=>opA call E A ρ ty (.call c)
def fT(op:Op):bR->Env->AH->(Operand->Lj)->TypeId->Option (Value×AH):=
 match op with
 | .move x=>λ_ _ A ρ _=>oV A (ρ x)
 | .assign x=>λ_ _ A ρ _=>oV A (ρ x)
 | .pick c a b=>λ_ _ A ρ _=>oV A (pickV ρ a b (ρ c))
 | .nilCheck x=>λ_ _ A ρ _=>oV A (nilV (ρ x))
 | .load t a=>λ_ E A ρ _=>oV A (s8 (vT E A t) (ρ a))
 | .binOp op t x y _=>λ_ E A ρ _=>oV A (binV E op t x y (ρ x) (ρ y))
 | .indexAddr t x i=>λ_ E A ρ _=>oV A (s7 (idxB E t) (ρ x) (ρ i))
 | .fieldAddr t x f=>λ_ E A ρ _=>oV A (s8 (λv=>fldA E t v f) (ρ x))
 | .field t x f=>λ_ E A ρ _=>oV A (s8 (λv=>oA E t v f) (ρ x))
 | .index t x i=>λ_ E A ρ _=>oV A (s7 (lp E t) (ρ x) (ρ i))
 | .lookup t x i cok=>λ_ E A ρ _=>oV A (s7 (λa b=>gq E A t a b cok) (ρ x) (ρ i))
 | .store t a x=>λ_ E A ρ _=>(match ρ a,ρ x with|some p,some v=>oS (iN E A t p v)|_,_=>none)
 | .call c=>qt c
 |op=>λcall E A ρ ty=>opA call E A ρ ty op
theorem i8(A:AH)(o:Lj):oV A o=(match o with|some v=>some (v,A)|none=>none):=by cases o<;>rfl
theorem be(b:E.sym=false)(A:AH)(ρ:Operand->Lj)(ty:TypeId)(a:Op):quiet E A ρ ty a=bm E A ρ ty a:=by unfold quiet;rw[b]
theorem y8(h:Op)(call:bR)(d:E.sym=false)(A:AH)(ρ:Operand->Lj)(ty:TypeId):fT h call E A ρ ty=opA call E A ρ ty h:=by
 cases h<;>try rfl
 case move x=>simp only[fT,opA,be d,bm,i8];cases ρ x<;>rfl
 case assign x=>simp only[fT,opA,be d,bm,i8];cases ρ x<;>rfl
 case pick c a b=>
  simp only[fT,opA,be d,bm,i8,pickV]
  cases o:ρ c with
  |none=>rfl
  | some v=>
    cases v<;>rfl
 case nilCheck x=>
  simp only[fT,opA,be d,bm,i8,nilV]
  cases ρ x with
  |none=>rfl
  |some v=>cases nnil v<;>rfl
 case load t a=>
  simp only[fT,opA,be d,bm,i8]
  cases ρ a with
  |none=>rfl
  |some v=>simp only[s8];cases vT E A t v<;>rfl
 case binOp h t x y yt=>
  simp only[fT,opA,be d,bm,i8,GR]
  cases ρ x with
  |none=>rfl
  | some a=>cases ρ y with
    |none=>rfl
    |some b=>cases k:binA E h t x y a b<;>simp only[k]<;>rfl
 case indexAddr t x i=>
  simp only[fT,opA,be d,bm,i8]
  cases ρ x with
  |none=>rfl
  | some a=>cases ρ i with
    |none=>rfl
    |some b=>simp only[s7];cases idxB E t a b<;>rfl
 case fieldAddr t x f=>
  simp only[fT,opA,be d,bm,i8]
  cases ρ x with
  |none=>rfl
  |some v=>simp only[s8];cases fldA E t v f<;>rfl
 case field t x f=>
  simp only[fT,opA,be d,bm,i8]
  cases ρ x with
  |none=>rfl
  |some v=>simp only[s8];cases oA E t v f<;>rfl
 case index t x i=>
  simp only[fT,opA,be d,bm,i8]
  cases ρ x with
  |none=>rfl
  | some a=>cases ρ i with
    |none=>rfl
    |some b=>simp only[s7];cases lp E t a b<;>rfl
 case lookup t x i cok=>
  simp only[fT,opA,be d,bm,i8]
  cases ρ x with
  |none=>rfl
  | some a=>cases ρ i with
    |none=>rfl
    |some b=>simp only[s7];cases gq E A t a b cok<;>rfl
 case store t a x=>
  simp only[fT,opA,be d,bm,bT,c7,effA,i4]
  cases ρ a with
  |none=>rfl
  | some p=>cases ρ x with
    |none=>rfl
    |some v=>simp only[oS];cases iN E A t p v<;>rfl
 case call c=>
  obtain⟨e,g,j⟩:=c
  cases e with
  | value f=>
    simp only[fT,qt,opA,be d,bm,bT,c7,effA,i4,callV]
    cases ρ f with
    |none=>rfl
    | some v=>
      cases mapO ρ g.toList with
      |none=>grind
      |some q=>cases v<;>first|rfl|(rename_i l x y;cases l<;>first|rfl|(obtain⟨x⟩:=x;obtain⟨y⟩:=y;rfl))
  | builtin b=>
    simp only[fT,qt,opA,be d,bm,bT,c7,effA,i4,i8]
    cases jY E A ρ b ⟨.builtin b,g,j⟩ ty with
    |some v=>rfl
    |none=>grind [orEff,effB]
  |invoke r m=>rfl
abbrev Res:=Option (Ex×T Value×AH)
abbrev Rec:=Code->Nat->T Value->AH->Res
def evF(E:Env)(F:T Value)(x:Operand):Lj:=evSel x E F
theorem BB(E:Env)(F:T Value):evF E F=ev E F:=funext λx=>zY E F x
def me(n:Nat)(F:T Value)(dst:Option Tmp)(v:Value)(A:AH)(ih:T Value->AH->Option (T Value×AH)):Option (T Value×AH):=
 Option.rec none (λF'=>ih F' A) (put n F dst v)
def AZ(n:Nat)(F:T Value)(dst:Option Tmp)(ih:T Value->AH->Option (T Value×AH))(r:Option (Value×AH)):Option (T Value×AH):=
 Option.rec none (λp=>Prod.rec (λv A=>me n F dst v A ih) p) r
def vA(call:bR)(E:Env)(ops:List Oper)(n:Nat)(o:Oper)(ih:T Value->AH->Option (T Value×AH))(F:T Value)(A:AH):Option (T Value×AH):=
 Option.rec none (λb=>Bool.rec (me n F o.dst undef A ih) (AZ n F o.dst ih (fT o.op call E A (evF E F) o.type)) b) (ct ops F o)
def opsF(call:bR)(E:Env)(ops:List Oper)(n:Nat)(l:List Oper):T Value->AH->Option (T Value×AH):=
 List.rec (motive:=λ_=>T Value->AH->Option (T Value×AH)) (λF A=>some (F,A)) (λo _ ih F A=>vA call E ops n o ih F A) l
theorem pA(a:bR){E:Env}(c:E.sym=false)(ops:List Oper)(n:Nat):∀ (l:List Oper) (F:T Value) (A:AH),opsF a E ops n l F A=kw a E ops n l F A
 | [],F,A=>rfl
 | o::l,F,A=>by
  show vA a E ops n o (opsF a E ops n l) F A=_;simp only[vA,kw,BB,y8 _ _ c];cases ct ops F o with
  |none=>rfl
  |some b=>
  cases b;simp only[me];cases put n F o.dst undef with
  |none=>rfl
  |some d=>exact pA a c ops n l d A
  simp only[AZ,me];cases opA a E A (ev E F) o.type o.op with
  |none=>rfl
  |some r=>
  obtain⟨v,e⟩:=r;simp only;cases put n F o.dst v with
  |none=>rfl
  |some d=>exact pA a c ops n l d e
def rN(r:Option (T Value×AH)):Res:=Option.rec none (λp=>some (.normal,p)) r
def onEx(k:T Value->AH->Res)(r:Res):Res:=
 match r with
 |some (.normal,F,A)=>k F A
 |r=>r
def zb(id:Nat)(r:Res):Res:=
 match r with
 |some (.exit id',F',A')=>bif Nat.beq id' id then some (.normal,F',A')else some (.exit id',F',A')
 |r=>r
def BJ(x y:T Value->AH->Res)(F:T Value)(A:AH)(v:Lj):Res:=
 match v with
 |some (.bool b)=>Bool.rec (y F A) (x F A) b
 |_=>none
def vc(draw:Bool)(ops:Array Oper):Env->Rec->Nat->T Value->AH->Res:=
 match draw with
 |false=>λE ih n F A=>rN (opsF (iK E ih) E ops.toList n ops.toList F A)
 |true=>λE ih n F A=>rN (qf (iK E ih) E ops n F A)
def kz(c:Code):Env->Rec->Nat->T Value->AH->Res:=
 match c with
 | .skip=>λ_ _ _ F A=>some (.normal,F,A)
 | .label _=>λ_ _ _ F A=>some (.normal,F,A)
 | .region _ ops draw=>vc draw ops
 | .seq x y=>λ_ ih n F A=>onEx (ih y n) (ih x n F A)
 | .cond b x y=>λE ih n F A=>BJ (ih x n) (ih y n) F A (evF E F b)
 | .block id b=>λ_ ih n F A=>zb id (ih b n F A)
 | .loop b=>λ_ ih n F A=>onEx (ih (.loop b) n) (ih b n F A)
 | .scope b=>λ_ ih n F A=>ih b n F A
 | .exit id=>λ_ _ _ F A=>some (.exit id,F,A)
 | .ret=>λ_ _ _ F A=>some (.ret,F,A)
 |_=>λ_ _ _ _ _=>none
def evN(E:Env)(k:Nat):Rec:=Nat.rec (motive:=λ_=>Rec) (λ_ _ _ _=>none) (λ_ ih c n F A=>kz c E ih n F A) k
theorem so{E:Env}(a:E.sym=false):∀ k,evN E k=evC E k
 |0=>by funext c n F A;rfl
 | k +1=>by
  have d:=so a k;funext c n F A;show kz c E (evN E k) n F A=_;rw[d];cases c<;>try rfl
  case region id ops draw=>
   cases draw with
   | false=>
     simp only[kz,vc,evC,pA _ a,rN]
     cases kw (iK E (evC E k)) E ops.toList n ops.toList F A<;>rfl
   | true=>
     simp only[kz,vc,evC,rN]
     cases qf (iK E (evC E k)) E ops n F A<;>rfl
  case cond b x y=>
   simp only[kz,evC,BJ,BB]
   cases ev E F b with
   |none=>rfl
   | some v=>
     cases v<;>try rfl
     rename_i t
     cases t<;>rfl
abbrev _root_.Go.Il:=@congrArg
abbrev ExtF:=Lh->AH->Option (Value×AH)
def Hl(P:Program)(f:FuncId)(x:ExtF):Prop:=∀ vs A v A',x vs A=some (v,A')->∀ σ w vs',Rel P σ A w->VRs σ vs vs'->Good P σ A w ((callFunc f ⟨vs'⟩).run P w) v A'
def E8(P:Program)(f:FuncId)(e:Array Value->Sem Value):Prop:=∃ fn,P.funcs[f]? =some fn/\(fn.name== "runtime.NumGoroutine")=false/\fn.body.isNone=true/\Extern.findNext fn=none/\Extern.find fn=some e
theorem uY{f:FuncId}{e:Array Value->Sem Value}(h:E8 P f e)(args:Array Value)(w:World):(callFunc f args).run P w=((e args).run P w).andThen λv w'=>.ok (.value v) w':=by obtain⟨i,g,d,c,b,a⟩:=h;rw[run_callFunc_extern g d c b a]
def qb(c:UInt8):List UInt8->Nat->Lk
 | [],_=>none
 |x::l,i=>bif Nat.beq x.toNat c.toNat then some i else qb c l (i+1)
theorem sd(b:ByteArray)(c:UInt8):∀ (l:List UInt8) (i:Nat),b.data.toList.drop i=l->((List.range' i l.length).find? λi=>b[i]! ==c)=qb c l i
 | [],i,_=>by simp[qb]
 | x::l,i,h=>by
  have d:b.data.toList[i]? =some x:=by have:=Il (·[0]?) h;simpa[IB]using this
  have f:b[i]! =x:=by
   have g:b[i]? =some x:=by rw[oP];exact d
   rw[getElem!_def,g]
  have a:b.data.toList.drop (i+1)=l:=by have:=Il (List.drop 1) h;simpa[Ji]using this
  simp only[HW,JJ,List.find?_cons,f,qb];rw[sd b c l (i+1) a];have e:(x==c)=Nat.beq x.toNat c.toNat:=by rw[Ir];simp[UInt8.toNat_inj]
  grind
def ii:ExtF:=λvs A=>match vs with
 | [.string s,.int .u8 c]=>(match qb c.toNat.toUInt8 s.data.toList 0 with
   |some i=>some (goInt i,A)
   |none=>some (goInt (-1),A))
 |_=>none
theorem lR{f:FuncId}(h:E8 P f Extern.BytealgIndexByte.indexByte):Hl P f ii:=by
 intro p A v q a σ w j R k;unfold ii at a;split at a;rename_i s c;cases k with
 | cons o t=>
  cases t with
  |cons m t=>
  cases t;cases o;cases m;have l:=sd s c.toNat.toUInt8 s.data.toList 0 rfl;have g:(Extern.BytealgIndexByte.indexByte #[.string s,.int .u8 c]).run P w=.ok (match qb c.toNat.toUInt8 s.data.toList 0 with|some i=>goInt i|none=>goInt (-1)) w:=by
   have b:Extern.BytealgIndexByte.indexByte #[.string s,.int .u8 c]=(match(List.range s.size).find? λi=>s[i]! ==c.toNat.toUInt8 with
    |some i=>pure (goInt i)
    |none=>pure (goInt (-1))):=rfl
   have d:s.size=s.data.toList.length:=rfl;rw[b,d,Jc,l];cases qb c.toNat.toUInt8 s.data.toList 0<;>rfl
  split at a;rename_i i e;cases a;refine Good.value (v':=goInt i) (w':=w) ?_ (.int _ _) R (Ext.refl _ _ _);rw[uY h,g,e];rfl;rename_i e;cases a;refine Good.value (v':=goInt (-1)) (w':=w) ?_ (.int _ _) R (Ext.refl _ _ _);rw[uY h,g,e];rfl
 cases a
def oB:List (FuncId×ExtF)->FuncId->Option ExtF
 | [],_=>none
 |(g,x)::l,f=>bif Nat.beq f g then some x else oB l f
def ud(P:Program)(nT nF:Nat)(tiT:T TypeInfo)(fnT:T Func)(gl:Nat->Option Lh)(ext:List (FuncId×ExtF))(sym:Bool:=false):Env where
 P:=P
 ti:=λt=>bif Nat.blt t nT then tiT.get t else none
 fn:=λf=>bif Nat.blt f nF then fnT.get f else none
 gl:=gl
 ext:=oB ext
 sym:=sym
def fill(a b:Option Func):Option Func:=match a with|none=>b|some x=>some x
def FX(o:Option Func):Bool:=match o with|none=>true|some g=> !g.body.isNone&& !(g.name== "runtime.NumGoroutine")
inductive ExtsOk (P:Program):List (FuncId×ExtF)->Prop
 |nil:ExtsOk P []
 |cons {f:FuncId}{x:ExtF}{l:List (FuncId×ExtF)}(h:Hl P f x) (t:ExtsOk P l):ExtsOk P ((f,x)::l)
theorem ExtsOk.get:∀ {l:List (FuncId×ExtF)},ExtsOk P l->∀ {f:FuncId}{x:ExtF},oB l f=some x->Hl P f x
 |_,.nil,f,x,h=>by simp[oB]at h
 | _,.cons (f:=g) h t,f,x,hx=>by
  simp only[oB]at hx;cases e:Nat.beq f g with
  |true=>simp_all
  |false=>rw[e]at hx;exact t.get hx
theorem qU{a :Type}{f g:Nat-> a}(h:(List.range n).map f=(List.range n).map g){t:Nat}(b:t<n):f t=g t:=by simp_all
theorem sr{l j:Nat}{d:T TypeInfo}{c:T Func}{r:Nat->Option Lh}{ext:List (FuncId×ExtF)}{k:Bool}
 (H:(List.range l).map d.get=(List.range l).map P.info?)
 (G:(List.range j).map (λf=>fill (c.get f) P.funcs[f]?)=(List.range j).map (λf=>P.funcs[f]?))
 (D:(List.range j).all (λf=>FX (c.get f))=true)
 (C:P.follows .mixedOrders=true) (B:ExtsOk P ext):(ud P l j d c r ext k).Ok:=by
 have m:∀ {α :Type}{a b:Nat}{x:Option α}{y: α},(bif Nat.blt a b then x else none)=some y->a<b/\x=some y:=by grind [Nat.blt,blt_eq]
 have o:∀ f g,(ud P l j d c r ext k).fn f=some g->f<j/\c.get f=some g:=λf g h=>m h;refine⟨?_,?_,?_,?_,C⟩;intro t i h;obtain⟨h,e⟩:=m (show(bif Nat.blt t l then d.get t else none)=some i from h);exact(qU H h).symm.trans e;intro f g h;obtain⟨h,e⟩:=o f g h;have:=qU G h;simp only[e,fill]at this;exact this.symm;intro f g h;obtain⟨h,e⟩:=o f g h;have:=HV.1 D f (If.2 h);simp only[e,FX,f',JA]at this;exact this;intro f x s A v I u z σ w p R q;exact B.get u s A v I z σ w p R q
def w9(E:Env)(o:Option Func):Bool:=
 match o with
 |none=>true
 |some g=>(match g.body with|none=>true|some c=>bM E c)
theorem xl{j i:Nat}{d:T TypeInfo}{a:T Func}{k:Nat->Option Lh}{ext:List (FuncId×ExtF)}{g:Bool}
 (h:(List.range i).all (λf=>w9 (ud P j i d a k ext g) (a.get f))=true):ut (ud P j i d a k ext g):=by intro f l c b m;have b:(bif Nat.blt f i then a.get f else none)=some l:=b;cases e:Nat.blt f i;rw[e]at b;simp at b;rw[e]at b;simp only[C']at b;grind [blt_eq,HV,If,w9]
section
variable {call:bR}{E:Env}{ops:List Oper}{ms:Lg}{n n0 sz:Nat}
variable {A G H:AH}{als:List Al}{l:List Oper}{i:Nat}{o:Oper}{K:RS->Prop}{F F':T Value}{v:Value}
def OL(b:bR)(E:Env)(a:List Oper)(n:Nat)(l:List Oper)(F:T Value)(A:AH)(K:T Value->AH->Prop):Prop:=∃ F' A',kw b E a n l F A=some (F',A')/\K F' A'
def op1(call:bR)(E:Env)(ops:List Oper)(n:Nat)(o:Oper)(F:T Value)(A:AH):Option (T Value×AH):=
 match ct ops F o with
 | some true=>(match opA call E A (ev E F) o.type o.op with
   |some (v,A')=>(match put n F o.dst v with|some F'=>some (F',A')|none=>none)
   |none=>none)
 |some false=>(match put n F o.dst undef with|some F'=>some (F',A)|none=>none)
 |none=>none
theorem OL.nil{K:T Value->AH->Prop}(k:K F A):OL call E ops n [] F A K:=⟨F,A,rfl,k⟩
theorem OL.op{A':AH}{K:T Value->AH->Prop}(h:op1 call E ops n o F A=some (F',A'))(k:OL call E ops n l F' A' K):OL call E ops n (o::l) F A K:=by obtain⟨b,c,d,a⟩:=k;refine⟨b,c,?_,a⟩;unfold op1 at h;unfold kw;grind
theorem OL.quiet{K:T Value->AH->Prop}(a:ct ops F o=some true)(h:AM.quiet E A (ev E F) o.type o.op=some v)(b:put n F o.dst v=some F')(k:OL call E ops n l F' A K):OL call E ops n (o::l) F A K:=
 OL.op (by unfold op1;rw[a];simp only[opA,h,b]) k
theorem cJ{c :Type}:∀ (f:Nat) (t:T c) (k:Nat) (x: c) (b:T c),t.get k=some x->T.set f t k x=some b->b=t
 |0,t,k,x,b,_,h=>by cases h
 |f+1,.leaf,k,x,b,hg,_=>by simp[T.get_leaf]at hg
 | f+1,.node l v r,k,x,b,hg,h=>by
  rw[T.set_node,T.setAt_eq]at h;rw[T.get_node]at hg;by_cases p:k=0;grind;rw[Hm p]at h hg;by_cases d:k%2=1;rw[Ht d]at h hg;cases a:T.set f l (k/2) x with
  |none=>simp[a]at h
  |some m=>simp only[a,osI]at h;rw[<-h,cJ f l _ x m hg a]
  rw[Hm d]at h hg;cases a:T.set f r (k/2-1) x with
  |none=>simp[a]at h
  |some e=>simp only[a,osI]at h;rw[<-h,cJ f r _ x e hg a]
 | f+1,.fn g,k,x,b,hg,h=>by
  rw[T.set_fn]at h;rw[T.get_fn]at hg;cases h;congr 1;funext j;by_cases q:j=k;simp_all;have:Nat.beq j k=false:=by grind [Nat.beq,absurd,Ho]
  rw[this]
theorem OL.split{c:Oper}{f g:T Value}{K:T Value->AH->Prop}{j d:Nat}{a b:Bool}(r:o.guard=some (j,a))(q:nth ops j=some c)(s:c.dst=some d)(e:F.get d=some (.bool b))
 (m:T.set FU F d (.bool true)=some f) (p:T.set FU F d (.bool false)=some g) (h:b=true->OL call E ops n (o::l) f A K) (k:b=false->OL call E ops n (o::l) g A K):OL call E ops n (o::l) F A K:=by
 cases b with
 |true=>rw[<-cJ _ _ _ _ _ e m];exact h rfl
 |false=>rw[<-cJ _ _ _ _ _ e p];exact k rfl
def RL(e:bR)(E:Env)(d:List Oper)(a:Lg)(n b c:Nat)(l:List Oper)(i:Nat)(S:RS)(K:RS->Prop):Prop:=∃ S',regA e E d a n b c l i S=some S'/\K S'
theorem RL.nil{S:RS}(k:K S):RL call E ops ms n n0 sz [] i S K:=⟨S,rfl,k⟩
theorem RL.fin{Q:T Value->AH->Prop}{A':AH}{past:List (Nat×AH)}{qs:List Qu}(h:bX (2 ^ sz-1) als G=some A')(k:Q F A'):RL call E ops ms n n0 sz [] i ⟨F,G,past,als,qs⟩ (λS=>∃ A',bX (2 ^ sz-1) S.als S.G=some A'/\Q S.F A'):=⟨_,rfl,A',h,k⟩
theorem RL.skip{past:List (Nat×AH)}{qs:List Qu}(b:ct ops F o=some false)(c:put n F o.dst undef=some F')(k:RL call E ops ms n n0 sz l (i+1) ⟨F',G,past,als,qs⟩ K):RL call E ops ms n n0 sz (o::l) i ⟨F,G,past,als,qs⟩ K:=by obtain⟨a,h,k⟩:=k;exact⟨a,by grind [regA],k⟩
theorem RL.quiet{past:List (Nat×AH)}{qs:List Qu}(b:ct ops F o=some true)(e:gO E o.op=false)(g:bT E (rho E F (bH o.op)) o.op=none)(j:bX ((nth ms i).getD 0) als G=some H)
 (c:AM.quiet E H (rho E F (bH o.op)) o.type o.op=some v) (f:hdep o.op=false) (d:put n F o.dst v=some F') (k:RL call E ops ms n n0 sz l (i+1) ⟨F',G,past,als,qs⟩ K):RL call E ops ms n n0 sz (o::l) i ⟨F,G,past,als,qs⟩ K:=by obtain⟨a,h,k⟩:=k;exact⟨a,by grind [regA],k⟩
def QC(E:Env)(a:List Al)(G:AH)(q:Qu):Prop:=∃ H,bX q.m a G=some H/\AM.quiet E H (rho E q.F (bH q.o.op)) q.o.type q.o.op=some q.v
theorem nY(a:E.sym=true){q:Qu}(h:QC E als G q):fW E als G q=true:=by obtain⟨H,c,b⟩:=h;grind [fW,ux]
inductive POk (E:Env) (als:List Al) (q:Qu):List (Nat×AH)->Prop
 |nil:POk E als q []
 |bit {ie:Nat}{G:AH}{r:List (Nat×AH)}(h:q.m.testBit ie=true):POk E als q ((ie,G)::r)
 |chk {ie:Nat}{G:AH}{r:List (Nat×AH)}(h:QC E als G q) (t:POk E als q r):POk E als q ((ie,G)::r)
theorem vw(a:E.sym=true){q:Qu}{r:List (Nat×AH)}(h:POk E als q r):iR E als q r=true:=by
 induction h with
 |nil=>rfl
 |bit h=>simp only[iR,h,C']
 | @chk ie G r h t ih=>simp only[iR,nY a h,C',ih];cases q.m.testBit ie<;>rfl
theorem RL.read(c:E.sym=true){past:List (Nat×AH)}{qs:List Qu}(b:ct ops F o=some true)(f:gO E o.op=false)(j:bT E (rho E F (bH o.op)) o.op=none)(m:bX ((nth ms i).getD 0) als G=some H)
 (d:AM.quiet E H (rho E F (bH o.op)) o.type o.op=some v) (g:hdep o.op=true) (a:POk E als ⟨i,(nth ms i).getD 0,o,F,v⟩ past) (e:put n F o.dst v=some F')
 (k:RL call E ops ms n n0 sz l (i+1) ⟨F',G,past,als,⟨i,(nth ms i).getD 0,o,F,v⟩::qs⟩ K):RL call E ops ms n n0 sz (o::l) i ⟨F,G,past,als,qs⟩ K:=by obtain⟨p,h,k⟩:=k;exact⟨p,by unfold regA;rw[b];simp only[f,j,m,d,g,e,vw c a,C'];exact h,k⟩
theorem RL.alloc{past:List (Nat×AH)}{qs:List Qu}{ob:AObj}{fv:Nat->Value}(b:ct ops F o=some true)(e:gO E o.op=false)(f:bT E (rho E F (bH o.op)) o.op=some (ob,fv))
 (c:((vis G (n0+i)).isNone&&past.all (λp=>(vis p.2 (n0+i)).isNone))=true) (d:put n F o.dst (fv (n0+i))=some F') (k:RL call E ops ms n n0 sz l (i+1) ⟨F',G,past,(i,n0+i,ob)::als,qs⟩ K):RL call E ops ms n n0 sz (o::l) i ⟨F,G,past,als,qs⟩ K:=by obtain⟨a,h,k⟩:=k;exact⟨a,by unfold regA;grind,k⟩
inductive QOk (E:Env) (als:List Al) (G:AH) (m:Nat):List Qu->Prop
 |nil:QOk E als G m []
 |bit {q:Qu}{r:List Qu}(h:m.testBit q.i=true) (t:QOk E als G m r):QOk E als G m (q::r)
 |chk {q:Qu}{r:List Qu}(h:QC E als G q) (t:QOk E als G m r):QOk E als G m (q::r)
theorem De(b:E.sym=true){m:Nat}{r:List Qu}(h:QOk E als G m r):r.all (λq=>m.testBit q.i||fW E als G q)=true:=by
 induction h with
 |nil=>rfl
 |bit h t a=>grind
 |chk h t a=>simp only[Jz,nY b h,Bool.or_true,Bool.true_and,a]
theorem RL.eff(d:E.sym=true){past:List (Nat×AH)}{qs:List Qu}{a:AH}(c:ct ops F o=some true)(m:gO E o.op=true)(p:bX ((nth ms i).getD 0) als G=some H)
 (b:c7 call E H (rho E F (bH o.op)) o.op=some (v,a)) (j:als.all (tQ H a)=true) (e:QOk E als a ((nth ms i).getD 0) qs) (g:Nat.ble (n0+sz) a.next=true) (f:put n F o.dst v=some F')
 (k:RL call E ops ms n n0 sz l (i+1) ⟨F',a,(i,G)::past,als,qs⟩ K):RL call E ops ms n n0 sz (o::l) i ⟨F,G,past,als,qs⟩ K:=by obtain⟨q,h,k⟩:=k;exact⟨q,by unfold regA;rw[c];simp only[m,p,b,j,De d e,g,f,C',Bool.and_true];exact h,k⟩
theorem RL.split{c:Oper}{f g:T Value}{past:List (Nat×AH)}{qs:List Qu}{j d:Nat}{a b:Bool}(r:o.guard=some (j,a))(q:nth ops j=some c)(s:c.dst=some d)(e:F.get d=some (.bool b))
 (m:T.set FU F d (.bool true)=some f) (p:T.set FU F d (.bool false)=some g) (h:b=true->RL call E ops ms n n0 sz (o::l) i ⟨f,G,past,als,qs⟩ K) (k:b=false->RL call E ops ms n n0 sz (o::l) i ⟨g,G,past,als,qs⟩ K):RL call E ops ms n n0 sz (o::l) i ⟨F,G,past,als,qs⟩ K:=by
 cases b with
 |true=>rw[<-cJ _ _ _ _ _ e m];exact h rfl
 |false=>rw[<-cJ _ _ _ _ _ e p];exact k rfl
end
def At(E:Env)(b:Sig)(d:AH)(c:World)(n:Nat)(F:T Value)(A:AH)(a:Act)(w:World):Prop:=∃ σ,FR σ F n a/\Rel E.P σ A w/\Glob E σ/\Ext b d c σ A w
abbrev Post:=Ex->T Value->AH->Prop
def W(E:Env)(A0:AH)(n:Nat)(c:Code)(Q:Post)(F:T Value)(A:AH):Prop:=∀ σ0 w0 a w,At E σ0 A0 w0 n F A a w->
 ∀Q':Exit->Act->World->Prop,(∀ex F' A' a' w',Q ex F' A'->At E σ0 A0 w0 n F' A' a' w'->Q' ex.of a' w')->c.wp E.P Q' a w
def Then(Q1:T Value->AH->Prop)(Q:Post):Post
 | .normal,F,A=>Q1 F A
 |ex,F,A=>Q ex F A
def Blk(id:Nat)(Q:Post):Post
 | .exit id',F,A=>bif Nat.beq id' id then Q .normal F A else Q (.exit id') F A
 |ex,F,A=>Q ex F A
section
variable {E:Env}{A0:AH}{n:Nat}{Q R:Post}{F F1:T Value}{A A1:AH}
variable {b:Code}{Q1:T Value->AH->Prop}
theorem Then.normal(h:Q1 F A):Then Q1 Q .normal F A:=h
theorem Then.ret(h:Q .ret F A):Then Q1 Q .ret F A:=h
theorem Then.exit{id:Nat}(h:Q (.exit id) F A):Then Q1 Q (.exit id) F A:=h
theorem Blk.normal{id:Nat}(h:Q .normal F A):Blk id Q .normal F A:=h
theorem Blk.ret{id:Nat}(h:Q .ret F A):Blk id Q .ret F A:=h
theorem Blk.out{id:Nat}(h:Q .normal F A):Blk id Q (.exit id) F A:=by simp only[Blk,beq_eq,IZ,C'];exact h
theorem Blk.on{id a:Nat}(c:Nat.beq a id=false)(h:Q (.exit a) F A):Blk id Q (.exit a) F A:=by simp only[Blk,c,HJ];exact h
theorem W.mono{c:Code}(h:W E A0 n c Q F A)(l:∀ d e A',Q d e A'->R d e A'):W E A0 n c R F A:=
 fun f j a w i p m=>h f j a w i p λd e A' o k g=>m d e A' o k (l _ _ _ g)
theorem W.turn{c:Code}(h:∀ σ0 w0 a w,At E σ0 A0 w0 n F A a w->At E σ0 A0 w0 n F1 A1 a w)(k:W E A0 n c Q F1 A1):W E A0 n c Q F A:=
 fun σ0 w0 a w d=>k σ0 w0 a w (h σ0 w0 a w d)
theorem W.skip(h:Q .normal F A):W E A0 n .skip Q F A:=λ_ _ _ _ a _ c=>wp_skip (c _ _ _ _ _ h a)
theorem W.label{l:Nat}(h:Q .normal F A):W E A0 n (.label l) Q F A:=λ_ _ _ _ a _ c=>wp_label (c _ _ _ _ _ h a)
theorem W.exit{id:Nat}(h:Q (.exit id) F A):W E A0 n (.exit id) Q F A:=λ_ _ _ _ a _ c=>wp_exit (c _ _ _ _ _ h a)
theorem W.ret(h:Q .ret F A):W E A0 n .ret Q F A:=λ_ _ _ _ a _ c=>wp_ret (c _ _ _ _ _ h a)
theorem W.scope(h:W E A0 n b Q F A):W E A0 n (.scope b) Q F A:=fun d g a w e p k=>
 wp_scope_straight (h d g a w e _ λf m o l i j c=>by have:=k f m o l i j c;cases f<;>exact this)
theorem W.seq{x y:Code}(h:W E A0 n x (Then (W E A0 n y Q) Q) F A):W E A0 n (.seq x y) Q F A:=fun d i a w f m g=>
 wp_seq (h d i a w f _ λk o p l j e c=>by
  cases k with
  |normal=>exact e d i l j c m g
  |exit id=>exact g _ _ _ _ _ e c
  |ret=>exact g _ _ _ _ _ e c)
theorem W.cond{b:Operand}{x y:Code}{t:Bool}(m:ev E F b=some (.bool t))(l:t=true->W E A0 n x Q F A)(k:t=false->W E A0 n y Q F A):W E A0 n (.cond b x y) Q F A:=by
 intro d g a w f j i;have c:=f;obtain⟨q,p,s,o,r⟩:=f;have h:=oC o p.val b _ m;have e:a.eval b=.bool t:=by generalize a.eval b=z at h;cases h;rfl
 cases t with
 |true=>exact wp_cond_true e (l rfl d g a w c j i)
 |false=>exact wp_cond_false e (k rfl d g a w c j i)
theorem W.block{id:Nat}(h:W E A0 n b (Blk id Q) F A):W E A0 n (.block id b) Q F A:=fun i o a w j m g=>
 wp_block (h i o a w j _ λp q r l k f c=>by
  cases p with
  |normal=>exact g _ _ _ _ _ f c
  |ret=>exact g _ _ _ _ _ f c
  |exit d=>show(if d=id then m .normal l k else m (.exit d) l k);simp only[Blk]at f;by_cases e:d=id;subst e;rw[Ht rfl];simp only[beq_eq,IZ,C']at f;exact g _ _ _ _ _ f c;rw[Hm e];simp only[beq_eq,e,IV,HJ]at f;exact g (.exit d) _ _ _ _ f c)
theorem W.loop(I:Nat->T Value->AH->Prop)(f:∀ m F A,I m F A->W E A0 n b (Then (λp A'=>∃ g,g<m/\I g p A') Q) F A){m:Nat}(h:I m F A):W E A0 n (.loop b) Q F A:=by
 intro e q a w d o r;have i:∀ k m F A a w,m<k->I m F A->At E e A0 q n F A a w->Code.rounds E.P b o k a w:=by
  intro k;induction k with
  |zero=>intro m F A a w v;omega
  |succ k t=>
  intro m F A a w v x d;show b.wp E.P (Exit.then (Code.rounds E.P b o k) o) a w;refine f m F A x e q a w d _ λy p A' z s j c=>?_;cases y with
  |normal=>obtain⟨g,u,l⟩:=j;exact t g p A' z s (by omega) l c
  |exit id=>exact r _ _ _ _ _ j c
  |ret=>exact r _ _ _ _ _ j c
 exact JZ (m+1) (i (m+1) m F A a w (I9 _) h d)
def WR(E:Env)(A0:AH)(n:Nat)(b:Code)(Q:Post):Nat->T Value->AH->Prop
 |0,_,_=>False
 |k+1,F,A=>W E A0 n b (Then (WR E A0 n b Q k) Q) F A
theorem WR.next{k:Nat}(h:W E A0 n b (Then (WR E A0 n b Q k) Q) F A):WR E A0 n b Q (k+1) F A:=h
theorem W.rounds(k:Nat)(h:WR E A0 n b Q k F A):W E A0 n (.loop b) Q F A:=by
 intro e j a w d i l;have f:∀ k F A a w,WR E A0 n b Q k F A->At E e A0 j n F A a w->Code.rounds E.P b i k a w:=by
  intro k;induction k with
  |zero=>intro F A a w h;exact h.elim
  |succ k o=>
  intro F A a w h d;show b.wp E.P (Exit.then (Code.rounds E.P b i k) i) a w;refine h e j a w d _ λp r s q m g c=>?_;cases p with
  |normal=>exact o r s q m g c
  |exit id=>exact l _ _ _ _ _ g c
  |ret=>exact l _ _ _ _ _ g c
 exact JZ k (f k F A a w h d)
theorem W.region(t:E.Ok){c:bR}(d:fJ E c){id:Nat}{ops:Array Oper}(h:OL c E ops.toList n ops.toList F A (Q .normal)):W E A0 n (.region id ops false) Q F A:=by intro o D a w f C x;obtain⟨p,z,k,j,y⟩:=f;obtain⟨l,m,v,u⟩:=h;refine wp_region ?_;have:=jq t d (ops:=ops) (Q:=C) ops.toList 0 F l A m p a w v (λi G=>by simp) k j z (λB q e s r g=>x .normal l m B q u ⟨e,s,r,j.sub (Ext.sub k g),y.trans g⟩);rw[Jc];simpa using this
theorem W.drawn(v:E.Ok){c:bR}(d:fJ E c){id:Nat}{ops:Array Oper}{l:List Oper}{sz:Nat}{m:Lg}(C:nU E ops=true)(z:ops.toList=l)(f:l.length=sz)(g:fj l []=m)(y:Nat.blt (A.next+sz+1) 1099511627776=true)
 (h:RL c E l m n A.next sz l 0 ⟨F,⟨A.t,A.next+sz⟩,[],[],[]⟩ λS=>∃ A',bX (2 ^ sz-1) S.als S.G=some A'/\Q .normal S.F A'):W E A0 n (.region id ops true) Q F A:=by
 intro q M a w i N H;obtain⟨L,J,p,o,I⟩:=i;obtain⟨S,D,A',j,x⟩:=h;subst z;subst f;subst g;have B:qf c E ops n F A=some (S.F,A'):=by unfold qf;simp only[y,C',D,j]
 exact sj v d C B p o J λK r e u s k=>H .normal S.F A' K r x ⟨e,u,s,o.sub (Ext.sub p k),I.trans k⟩
end
theorem _root_.Go.Ie:type_of% @List.mem_singleton:=@List.mem_singleton
variable {σ σ':Sig}
inductive HF:Value->Prop
 |scal {v:Value}(h:scal v=true):HF v
 |dat {sz:Nat}{els cap:Lh}(h:∀ x∈els,HF x):HF (.func (.yield sz) ⟨els⟩ ⟨cap⟩)
 |agg {cs:Lh}(h:∀ x∈cs,HF x):HF (.agg ⟨cs⟩)
 |tuple {cs:Lh}(h:∀ x∈cs,HF x):HF (.tuple ⟨cs⟩)
 |iface {t:TypeId}{v:Value}(h:HF v):HF (.iface t v)
theorem HF.nil:∀ x∈([]:Lh),HF x:=λx h=>by simp at h
theorem HF.cons{v:Value}{l:Lh}(h:HF v)(t:∀ x∈l,HF x):∀ x∈v::l,HF x:=λx a=>by grind
theorem VRs.split:∀ {a b l:Lh},VRs σ (a++b) l->∃ c l2,l=c++l2/\VRs σ a c/\VRs σ b l2
 | [],b,l,h=>⟨[],l,rfl,.nil,h⟩
 |x::a,b,_,.cons (v':=y) hv t=>by obtain⟨c,l2,rfl,e,d⟩:=VRs.split t;exact⟨y::c,l2,rfl,.cons hv e,d⟩
theorem VRs.each:∀ {l l':Lh},(∀x∈l,∀v',VR σ x v'->VR σ' x v')->VRs σ l l'->VRs σ' l l'
 |_,_,_,.nil=>.nil
 |_,_,h,.cons hv t=>.cons (h _ (by simp) _ hv) (VRs.each (λx a=>h x (by simp[a])) t)
theorem VRs.eachL:∀ {els l':Lh},(∀x∈els,∀v',VR σ x v'->VR σ' x v')->VRs σ (ap els) l'->VRs σ' (ap els) l'
 | [],_,_,h=>by cases h;exact .nil
 | x::els,l',h,hv=>by
  rw[aU]at hv ⊢;obtain⟨i,l,rfl,d,k⟩:=VRs.split hv;refine VRs.append ?_ (VRs.eachL (λy j=>h y (by simp[j])) k);have f:=h x (by simp);by_cases c:∃ g:Lh,x=.agg ⟨g⟩;obtain⟨g,rfl⟩:=c;have:=f (.agg ⟨i⟩) (.agg d);cases this with
  |agg h=>exact h
  have e:x.cells.toList=[x]:=by cases x<;>first|rfl|exact absurd ⟨_,rfl⟩ c
  rw[e]at d ⊢;cases d with
  |cons a b=>cases b;exact .cons (f _ a) .nil
theorem HF.move(d:∀ b o,σ.ro b=some o->σ'.ro b=some o){v:Value}(h:HF v):∀ v',VR σ v v'->VR σ' v v':=by
 induction h with
 |scal h=>grind [l5,e7]
 | dat h a=>
  intro v' c;cases c with
  |func q m=>simp[Fn.still]at m
  |dat k g f e=>exact .dat (d _ _ k) g f (e.eachL a)
  |datN=>exact .datN _
  |datE=>exact .datE _ _ _
  |gp p i j l=>have:=h _ (Ie.2 rfl);cases this with|scal h=>exact absurd h Bool.false_ne_true
  |datP k g f e n=>exact .datP (d _ _ k) g f e (n.eachL a)
 |agg h a=>intro v' c;cases c with|agg h=>exact .agg (h.each a)
 |tuple h a=>intro v' c;cases c with|tuple h=>exact .tuple (h.each a)
 |iface h a=>intro v' c;cases c with|iface _ h=>exact .iface _ (a _ h)
theorem HF.moves(a:∀ b o,σ.ro b=some o->σ'.ro b=some o){l l':Lh}(h:∀ x∈l,HF x)(d:VRs σ l l'):VRs σ' l l':=d.each λx c=>(h x c).move a
mutual
inductive Frz (A:AH):Value->Value->Prop
 |same {v:Value}(h:HF v):Frz A v v
 |slice {B i n k sz:Nat}{c c2 els:Lh}(hl:look A B=some c) (hn:n*sz<=(c.drop i).length) (hk:n<=k) (hc:FrzL A ((c.drop i).take (n*sz)) c2) (he:ap els=c2) (hsz:∀ x∈els,x.cells.size=sz) (hlen:els.length=n):Frz A (.slice (some ⟨B,i,none⟩) n k) (.func (.yield sz) ⟨els⟩ ⟨[]⟩)
 |gsl {B o n m sz lo:Nat}{e:TypeId}{els1 tl1 els0 els c2:Lh}(hg:A.t.get B=some (.gro els1 tl1 e)) (h0:els1++tl1=els0) (hG:isG m=true) (hm:gsz m=sz) (hpos:0<sz) (ho:o=lo*sz) (hsz0:∀ x∈els0,x.cells.size=sz) (hle:lo+n<=els0.length) (hc:FrzL A (ap ((els0.drop lo).take n)) c2) (he:ap els=c2) (hsz:∀ x∈els,x.cells.size=sz) (hlen:els.length=n):Frz A (.slice (some ⟨B,o,none⟩) n m) (.func (.yield sz) ⟨els⟩ ⟨[]⟩)
 |nils (sz:Nat):Frz A (.slice none 0 0) (.func (.yield sz) ⟨[]⟩ ⟨[]⟩)
 |agg {cs cs2:Lh}(h:FrzL A cs cs2):Frz A (.agg ⟨cs⟩) (.agg ⟨cs2⟩)
 |tuple {cs cs2:Lh}(h:FrzL A cs cs2):Frz A (.tuple ⟨cs⟩) (.tuple ⟨cs2⟩)
inductive FrzL (A:AH):Lh->Lh->Prop
 |nil:FrzL A [] []
 |cons {v v2:Value}{l l2:Lh}(h:Frz A v v2) (t:FrzL A l l2):FrzL A (v::l) (v2::l2)
end
variable {A:AH}{E:Env}{fn:Func}{p:Lh->Lj}{P:Program}{σ:Sig}{F:T Value}{v:Value}{Q:Value->AH->Prop}{w:World}
theorem FrzL.same:∀ {l:Lh},(∀x∈l,HF x)->FrzL A l l
 | [],_=>.nil
 |x::l,h=>.cons (.same (h x (by simp))) (FrzL.same λy a=>h y (by simp[a]))
theorem Frz.eq{a:Value}(h:v=a)(b:HF v):Frz A v a:=h▸ .same b
theorem zw(R:Rel P σ A w){B b d k:Nat}{c:Lh}(h:look A B=some c)(a:σ B=some (b,d,k)):
 (∃o,A.t.get B=some o/\o.here=true)/\∃ c' e fz,w.heap[b]? =some (.cells c' e fz)/\∀ (i:Nat) v,c[i]? =some v->∃ v',c'[d+i]? =some v'/\VR σ v v':=by unfold look at h;split at h;rename_i q e f;cases h;obtain⟨r,n,m,g,c',s,u,l,_,j,_⟩:=R.obj B _ f rfl;rw[a]at g;cases g;exact⟨⟨_,f,rfl⟩,c',e,_,l,j⟩;rename_i q e f;cases h;obtain⟨r,n,m,g,c',fz,l,j⟩:=R.obj B _ f rfl;rw[a]at g;cases g;exact⟨⟨_,f,rfl⟩,c',e,fz,l,j⟩;cases h
theorem Frz.ok{σ':Sig}(R:Rel P σ A w)(Y:∀ b o,σ.ro b=some o->σ'.ro b=some o)
 (z:∀ B o x,A.t.get B=some o->o.here=true->σ B=some x->σ'.ro x.1=w.heap[x.1]?) {I:Value}(h:Frz A v I):∀ v',VR σ v v'->VR σ' I v':=by
 refine Frz.rec (motive_1:=λv I _=>∀ v',VR σ v v'->VR σ' I v') (motive_2:=λl l2 _=>∀ N,VRs σ l N->VRs σ' l2 N) ?_ ?_ ?_ ?_ ?_ ?_ ?_ ?_ h;intro v h v' r;exact h.move Y v' r;intro B i n k s c c2 f hl H hk hc he D g C v' r;have U:∃ b d G cc,σ B=some (b,d,cc)/\v'=.slice (some ⟨b,d+i,none⟩) n G/\n<=G∨(n=0/\(v'=.slice none 0 0∨∃ a' G,v'=.slice (some a') 0 G)):=by
  cases r with
  |slice _ _ _ h _=>grind
  |sliceU _ h H=>grind
  |sliceV _ _ _ h H=>grind
  |sliceE a a' G=>simp_all
  | gs0 B o m a hm=>cases a with
    |none=>simp_all
    |some a=>simp_all
  |gs J o' n' k' m h H hc O hm=>grind
 obtain⟨b,d,G,cc,⟨u,rfl,a2⟩|⟨rfl,rfl|⟨a',b0,rfl⟩⟩⟩:=U;obtain⟨⟨o,O,hh⟩,c',e,fz,hw,y⟩:=zw R hl u;have L:=z B o _ O hh u;simp only at L;subst g;refine .dat (L.trans hw) D a2 ?_;rw[he];refine C _ (VRs.of_get ?_ ?_);have:∀ (j:Nat),j<f.length*s->∃ v',c'[d+i+j]? =some v':=by
  intro j hj;have Z:i+j<c.length:=by simp at H;omega
  obtain⟨v',h1,_⟩:=y (i+j) _ (Hr Z);grind
 simp only[Ic,J7,JP];by_cases hz:f.length*s=0;omega;obtain⟨v',h1⟩:=this (f.length*s-1) (by omega);grind;grind;have:f=[]:=H0 g;subst this;exact .datN _;have:f=[]:=H0 g;subst this;exact .datE _ _ _;intro B o n m s J e a8 a9 q f c2 hg hE hG b3 a6 O K a1 hc he D g C v' r;rcases b7 r hG with⟨rfl,a,rfl⟩|⟨b,d,c,S,k,u,rfl,H,a7,b1⟩;have:f=[]:=H0 g;subst this;cases a with
 |none=>exact .datN _
 |some a=>exact .datE _ _ _
 have a0:J=S:=by grind [Nat.eq_of_mul_eq_mul_right]
 subst a0;obtain⟨c',l0,h0,g1,g2,g3,g4,g5,g6⟩:=R.at hg rfl u;rw[hE]at g3 g4 g6;have L:=z B _ _ hg rfl u;simp only at L;subst O;subst g;refine .dat (L.trans g1) D H ?_;rw[he];have a4:ap ((q.drop J).take f.length)=((ap q).drop (J*s)).take (f.length*s):=by grind [bP,cb,I0]
 have a3:=aE K;have M:(J+f.length)*s<=q.length*s:=H5 _ a1;rw[IG]at M;refine C _ (VRs.of_get ?_ ?_);rw[a4];simp only[Ic,J7,JP,a3];by_cases hz:q.length*s=0;omega;obtain⟨v',h1,_⟩:=g3 (q.length*s-1) _ (Hr (by omega));grind;grind;intro s v' r;cases r;exact .datN _;intro cs a5 _ C v' r;cases r with|agg h=>exact .agg (C _ h)
 intro cs a5 _ C v' r;cases r with|tuple h=>exact .tuple (C _ h)
 intro N r;cases r;exact .nil;intro v I l l2 _ _ X V N r;cases r with|cons a b=>exact .cons (X _ a) (V _ b)
def Con(E:Env)(f:FuncId)(x:ExtF):Prop:=∀ args A v A',x args A=some (v,A')->∀ σ w args',Rel E.P σ A w->Glob E σ->VRs σ args args'->
 Calls E.P f ⟨args'⟩ w (λe w'=>∃ v' σ',e=.returned v'/\VR σ' v v'/\Rel E.P σ' A' w'/\Ext σ A w σ' A' w')
inductive Cons (E:Env):List (FuncId×ExtF)->Prop
 |nil:Cons E []
 |cons {f:FuncId}{x:ExtF}{l:List (FuncId×ExtF)}(h:Con E f x) (t:Cons E l):Cons E ((f,x)::l)
theorem Cons.get:∀ {l:List (FuncId×ExtF)},Cons E l->∀ {f:FuncId}{x:ExtF},oB l f=some x->Con E f x
 |_,.nil,f,x,h=>by simp[oB]at h
 | _,.cons (f:=g) h t,f,x,hx=>by
  simp only[oB]at hx;cases e:Nat.beq f g with
  |true=>simp_all
  |false=>rw[e]at hx;exact t.get hx
def Fin(E:Env)(a:Func)(Q:Value->AH->Prop):Post:=λex F' A'=>(ex=.normal∨ex=.ret)/\∃ v,cz E A' F' a.results.toList=some v/\Q v A'
theorem Fin.ret(h:cz E A F fn.results.toList=some v)(k:Q v A):Fin E fn Q .ret F A:=⟨.inr rfl,v,h,k⟩
theorem Fin.normal(h:cz E A F fn.results.toList=some v)(k:Q v A):Fin E fn Q .normal F A:=⟨.inl rfl,v,h,k⟩
theorem kn(q:E.Ok){f:FuncId}{c:Code}(j:E.fn f=some fn)(g:fn.body=some c){args:Lh}
 (d:b8 args 0 .leaf=some F) (K:args.length<=fn.ntmps) (G:W E A fn.ntmps c (Fin E fn Q) F A) {a:Lh}(R:Rel E.P σ A w) (D:Glob E σ) (s:VRs σ args a):
 Calls E.P f ⟨a⟩ w (λe w'=>∃ v v' A' σ',e=.returned v'/\Q v A'/\VR σ' v v'/\Rel E.P σ' A' w'/\Ext σ A w σ' A' w'):=by
 have r:=s.length;have m:FR σ F fn.ntmps {tmps:=(⟨a⟩:Array Value)++Array.replicate (fn.ntmps-(⟨a⟩:Array Value).size) undef,defers:=[]}:=by refine⟨by simp;omega,λt I b=>?_,rfl⟩;unfold slot at b;rw[ez d t]at b;simp only;rw[H8,JG];by_cases J:t<args.length;rw[Ht ⟨Jp _,by omega⟩,Kd]at b;rw[Ht (by simp;omega)];obtain⟨u,M,L⟩:=s.get b;grind;rw[Hm (by omega)]at b;cases b
 refine calls_of_wp (q.fn f fn j) g (G σ w _ w ⟨σ,m,R,D,Ext.refl _ _ _⟩ _ λN O A' x w' C l=>?_);obtain⟨k,v,i,H⟩:=C;obtain⟨σ',o,n,_,B⟩:=l;obtain⟨v',z,y⟩:=iu q n o i;have h:x.defers=[]/\∃ u,(results fn x.tmps).run E.P w'=.ok u w'/\(λe w'=>∃ v v' A' σ',e=Ending.returned v'/\Q v A'/\VR σ' v v'/\Rel E.P σ' A' w'/\Ext σ A w σ' A' w') (.returned u) w':=⟨o.defers,v',z,v,v',A',σ',rfl,H,y,n,B⟩;rcases k with rfl|rfl<;>exact h
def dC(p:Lh->Lj):ExtF:=λargs A=>match p args with|some v=>some (v,A)|none=>none
def sigR(σ:Sig):Sig:=⟨λ_=>none,σ.ro,λ_=>False⟩
theorem relR(R:Rel P σ A w):Rel P (sigR σ) ⟨.leaf,0⟩ w:=
 ⟨λB o h=>by simp[T.get]at h,λB c o b x a h=>by simp[T.get]at h,(λB x h=>by cases h),λB h=>rfl,R.ro,λB o x h=>by simp[T.get]at h,λ_ h=>h.elim⟩
def sigB(σ:Sig)(w a:World):Sig:=⟨σ.f,λb=>if b<w.heap.size then σ.ro b else a.heap[b]?,σ.nl⟩
theorem iW{b:Nat}{o:Obj}(h:w.heap[b]? =some o):b<w.heap.size:=by grind
theorem relB{w':World}(R:Rel P σ A w)(h:∀ b,b<w.heap.size->w'.heap[b]? =w.heap[b]?)(j:w.heap.size<=w'.heap.size):Rel P (sigB σ w w') A w':=by
 have f:σ.sub (sigB σ w w'):=⟨λ_ _ h=>h,λb o a=>by show(if b<w.heap.size then σ.ro b else w'.heap[b]?)=some o;rw[Ht (iW (R.ro b o a))];exact a⟩
 refine⟨λB o k m=>?_,R.inj,λB x g=>It (R.lt B x g) j,R.fresh,λb o a=>?_,λB o x k l g=>?_,R.nl⟩;· rcases R.obj0 B o k m with⟨b,d,c,i,n⟩|i;rotate_left;exact .inr i;refine .inl ⟨b,d,c,i,?_⟩;rw[h b (R.lt B _ i)];exact n.mono f
 have a:(if b<w.heap.size then σ.ro b else w'.heap[b]?)=some o:=a;by_cases e:b<w.heap.size;rw[Ht e]at a;rw[h b e];exact R.ro b o a;rw[Hm e]at a;exact a;show(if x.1<w.heap.size then σ.ro x.1 else w'.heap[x.1]?)=none;rw[Ht (R.lt B x g)];exact R.sep B o x k l g
theorem extB{w':World}(R:Rel P σ A w)(h:∀ b,b<w.heap.size->w'.heap[b]? =w.heap[b]?)(c:w.heap.size<=w'.heap.size)(j:w'.os=w.os)(i:w'.tape=w.tape)(g:w'.output=w.output):Ext σ A w (sigB σ w w') A w':=by refine⟨λ_ _=>rfl,Hw _,c,λb a _=>h b a,λB o x f e d=>.inr ⟨B,o,x,f,e,d,rfl⟩,λB o x f e d=>.inr ⟨B,o,x,f,e,d,rfl⟩,j,i,g,λb o a=>?_,λb o a=>?_,λ_ _=>JC⟩;show(if b<w.heap.size then σ.ro b else w'.heap[b]?)=some o;rw[Ht (iW (R.ro b o a))];exact a;have a:(if b<w.heap.size then σ.ro b else w'.heap[b]?)=some o:=a;grind
def Walk(E:Env)(fn:Func)(args:Lh)(v:Value):Prop:=
 ∃c F,fn.body=some c/\Nat.ble args.length fn.ntmps=true/\b8 args 0 .leaf=some F/\W E ⟨.leaf,0⟩ fn.ntmps c (Fin E fn λv2 A2=>Frz A2 v2 v) F ⟨.leaf,0⟩
theorem Ae(G:E.Ok)(K:GlOk E){f:FuncId}(r:E.fn f=some fn)
 (h:∀ args v,p args=some v->(∀x∈args,HF x)/\Walk E fn args v):Con E f (dC p):=by
 intro args A v A' j σ w t R L O;unfold dC at j;split at j;rename_i u I;simp only[osI,Hs]at j;obtain⟨rfl,rfl⟩:=j;obtain⟨M,c,F,l,m,a,S⟩:=h args u I;refine(kn G r l a (IF m) S (relR R) (λg V h=>L g V h) (HF.moves (σ:=σ) (σ':=sigR σ) (λ_ _ h=>h) M O)).mono λe n N=>?_;obtain⟨Y,y,Z,C,rfl,q,U,z,i⟩:=N;have d:∀ b,b<w.heap.size->n.heap[b]? =w.heap[b]?:=λb m=>i.frame b m λB o x s=>by simp[T.get]at s
 refine⟨y,sigB σ w n,rfl,q.ok z (λb o m=>?_) (λB o x s J j=>?_) y U,relB R d i.size,extB R d i.size i.os i.tape i.output⟩;show(if b<w.heap.size then σ.ro b else n.heap[b]?)=some o;rcases i.rog b o m with k|k|⟨X,H,D,k,_⟩;have k:σ.ro b=some o:=k;rw[Ht (iW (R.ro b o k))];exact k;rw[Hm (by omega)];exact z.ro b o m;simp[T.get]at k;show(if x.1<w.heap.size then σ.ro x.1 else n.heap[x.1]?)=n.heap[x.1]?;rcases i.orig2 B o x s J j with k|⟨X,H,D,k,_⟩;rw[Hm (by omega)];simp[T.get]at k;cases j
theorem mV{σ:Sig}:∀ {l l':Lh},l.all flat=true->VRs σ l l'->l'=l
 |_,_,_,.nil=>rfl
 |_,_,h,.cons hv t=>by simp only[Jz,f']at h;rw[cY h.1 hv,mV h.2 t]
theorem iG{σ:Sig}:∀ {l:Lh},l.all flat=true->VRs σ l l
 | [],_=>.nil
 |v::l,h=>by simp only[Jz,f']at h;exact .cons (bI h.1 σ) (iG h.2)
theorem ui{f:FuncId}(h:Con E f (dC p)){args:Lh}(j:p args=some v)(i:flat v=true)(w:World)(d:Glob E (sig0 w)){a:Lh}(m:VRs (sig0 w) args a):
 Calls E.P f ⟨a⟩ w λe w'=>e=.returned v/\RowKit.Below w.heap.size w w':=by refine(h args ⟨.leaf,0⟩ v ⟨.leaf,0⟩ (by simp[dC,j]) (sig0 w) w a (rel0 E.P w) d m).mono λe w' k=>?_;obtain⟨r,g,rfl,q,s,c⟩:=k;rw[cY i q];exact⟨rfl,c.os,c.tape,c.output,c.size,λb l=>c.frame b l λB o x n=>by simp[T.get]at n⟩
theorem Con.fewer{f:FuncId}{q:Lh->Lj}(h:Con E f (dC p))(c:∀ args v,q args=some v->p args=some v):Con E f (dC q):=by intro args A v a b;refine h args A v a ?_;grind [dC]
abbrev _root_.Go.IH:=@Bool.and_self
variable {E:Env}{A:AH}{ρ:Operand->Lj}{ty t t2:TypeId}{x y:Operand}
variable {k:IntKind}{v:Value}
theorem dO(b:E.sym=true){a:Op}(h:symQ E ρ a=some v):quiet E A ρ ty a=some v:=by unfold quiet;rw[b];simp only[h]
theorem vh(e:E.sym=true){a b:Int}(d:ρ x=some (.int k a))(c:ρ y=some (.int k b))(h:decide (b=0)=false):quiet E A ρ ty (.binOp .quo t x y t2)=some (.int k (k.wrap (a.tdiv b))):=by grind [dO,symQ,nE,symI,dp]
theorem vg(e:E.sym=true){a b:Int}(d:ρ x=some (.int k a))(c:ρ y=some (.int k b))(h:decide (b=0)=false):quiet E A ρ ty (.binOp .rem t x y t2)=some (.int k (a.tmod b)):=by grind [dO,symQ,nE,symI,dp]
theorem vk(g:E.sym=true){sz:Nat}{els:Lh}{n:Int}{e:TypeId}{a:TypeInfo}(d:ρ x=some (.func (.yield sz) ⟨els⟩ ⟨[]⟩))(c:ρ y=some (.int k n))(f:und E t=some (.slice e))(h:E.ti e=some a)(b:(Nat.beq a.size sz&&Nat.blt 0 sz)=true)(j:0<=n)(i:n<els.length):
 quiet E A ρ ty (.indexAddr t x y)=some (.func (.yield sz) ⟨els⟩ ⟨[.int .i64 n.toNat,.int .i64 (0:Nat)]⟩):=by refine dO g ?_;simp only[symQ,d,c,f,h,b,j,i,IZ,IH,C']
theorem tn(c:E.sym=true){sz:Nat}{els:Lh}{i j:Int}{u:Value}(a:ρ x=some (.func (.yield sz) ⟨els⟩ ⟨[.int .i64 i,.int .i64 j]⟩))(d:nth els i.toNat=some u)(b:ldat E t [u] 0 j.toNat=some v):quiet E A ρ ty (.load t x)=some v:=by grind [dO,symQ,ldat,nth]
theorem OL.eff{a:bR}{ops:List Oper}{n:Nat}{o:Oper}{l:List Oper}{F b:T Value}{A A':AH}{K:T Value->AH->Prop}(d:ct ops F o=some true)(e:AM.quiet E A (ev E F) o.type o.op=none)(g:bT E (ev E F) o.op=none)(c:c7 a E A (ev E F) o.op=some (v,A'))(f:put n F o.dst v=some b)(k:OL a E ops n l b A' K):OL a E ops n (o::l) F A K:=
 OL.op (by grind [op1,opA]) k
end
end Go.AM
namespace Go.AM
open Go.RowKit Go.ChangeShapes
theorem gE{H:Type}{enc:TypeId×Value->H}{P:Program}(g:laidOutB P=true){W j:World}(i:Below W.heap.size W j):
 ∀{ts:List TypeId}{vs:Lh}{e:List (DataW H)}{c:List MemPlace},(ts.all λt=>P.readableRec t&&decide (t<P.types.size))=true->DataW.TrodAll enc P W 0 (λ_=>true) true ts vs e c->(∀x∈c,x.block<W.heap.size)->
 DataW.TrodAll enc P j 0 (λb=>decide (b<W.heap.size)) true ts vs e c
 | [],vs,e,c,_,h,_=>by obtain⟨rfl,rfl,rfl⟩:=trodAll_nil h;exact trodAll_mk0
 |t::ts,vs,e,c,hr,h,hlt=>by simp only[Jz,f',HL]at hr;obtain⟨v,k,d,n,p,q,rfl,rfl,rfl,m,l⟩:=trodAll_cons h;have a:=Below.trod g hr.1.1 hr.1.2 m i λx f=>hlt x (by simp[f]);have b:=gE g i (ts:=ts) hr.2 l λx f=>hlt x (by simp[f]);exact⟨p,q,a,b,rfl⟩
theorem law_post{H:Type}{enc:TypeId×Value->H}{P:Program}{f:Func}{s:ChangeSpec}{d a:Bool}{W j:World}{args:Array Value}{i:List (DataW H)}{c:List MemPlace}
 (z:laidOutB P=true) (y:(f.params.toList.all λt=>P.readableRec t&&decide (t<P.types.size))=true) (k:s.vars=[]) (m:DataW.Whole enc P f.params.toList s.vars false W args.toList i [] c)
 (l:s.fn H (i++[])={results:=[.lit (.bool true)],args:=i}) (e:∀ (b:Nat) (sp:Nat->Bool) (hd:Bool),DataW.TrodAll enc P j b sp hd f.resultTypes.toList ((Value.bool true).resultList f.resultTypes.size) [.lit (.bool true)] [])
 (v:Below W.heap.size W j):s.post enc P f false d a false W args (.bool true) j:=by
 have g:=m;obtain⟨p,q,w,n,rfl,_,_⟩:=m;have u:∀ x∈p++q,x.block<W.heap.size:=λx o=>g.lt x o;have r:q=[]:=by rw[k]at n;exact(trodVars_none n).2
 subst r;refine⟨i,[],p++[],[],p,[],g,?_,?_,?_,v.frame _,λh=>by cases h⟩;rw[l];exact e _ _ _;grind [gE];rw[l,k];rfl
end Go.AM
namespace Go.AM
noncomputable section
abbrev _root_.Go.I4:=@List.getElem?_set
theorem _root_.Go.Ip:type_of% @List.getElem?_append_right:=@List.getElem?_append_right
mutual
inductive RV (ρ:Nat->Lk):Value->Value->Prop
 |hf {v:Value}(h:HF v):RV ρ v v
 |ptr {B B' i:Nat}(h:ρ B'=some B):RV ρ (.pointer (some ⟨B,i,none⟩)) (.pointer (some ⟨B',i,none⟩))
 |slice {B B' i n k:Nat}(h:ρ B'=some B):RV ρ (.slice (some ⟨B,i,none⟩) n k) (.slice (some ⟨B',i,none⟩) n k)
 |sliceE {a a':Addr}:RV ρ (.slice (some a) 0 (unk+2)) (.slice (some a') 0 (unk+2))
 |nilG {B' m:Nat}(hm:unk+3<=m):RV ρ (.slice none 0 0) (.slice (some ⟨B',0,none⟩) 0 m)
 |map {B B':Nat}(h:ρ B'=some B):RV ρ (.map (some B)) (.map (some B'))
 |func {fn:Fn}{xs ys xs' ys':Lh}(hf:Fn.still fn=true) (hx:RVs ρ xs xs') (hy:RVs ρ ys ys'):RV ρ (.func fn ⟨xs⟩ ⟨ys⟩) (.func fn ⟨xs'⟩ ⟨ys'⟩)
 |iface {t:TypeId}{v v':Value}(h:RV ρ v v'):RV ρ (.iface t v) (.iface t v')
 |agg {xs xs':Lh}(h:RVs ρ xs xs'):RV ρ (.agg ⟨xs⟩) (.agg ⟨xs'⟩)
 |tuple {xs xs':Lh}(h:RVs ρ xs xs'):RV ρ (.tuple ⟨xs⟩) (.tuple ⟨xs'⟩)
inductive RVs (ρ:Nat->Lk):Lh->Lh->Prop
 |nil:RVs ρ [] []
 |cons {v v':Value}{l l':Lh}(h:RV ρ v v') (t:RVs ρ l l'):RVs ρ (v::l) (v'::l')
end
variable {A A0:AH}{o o1:AObj}{E:Env}{n:Nat}{ρ:Nat->Lk}{σ:Sig}{F:T Value}
def sigT(ρ:Nat->Lk)(σ:Sig):Sig:=⟨λB=>(ρ B).bind σ.f,σ.ro,λB'=>∃ B,ρ B'=some B/\σ.nl B⟩
theorem dw{B B':Nat}{x:Nat×Nat×Nat}(h:ρ B'=some B)(a:σ B=some x):(sigT ρ σ) B'=some x:=by show(ρ B').bind σ.f=some x;rw[h];exact a
theorem bN{B':Nat}{x:Nat×Nat×Nat}(h:(sigT ρ σ) B'=some x):∃ B,ρ B'=some B/\σ B=some x:=by
 have h:(ρ B').bind σ.f=some x:=h;cases a:ρ B' with
 |none=>rw[a]at h;cases h
 |some B=>rw[a]at h;exact⟨B,rfl,h⟩
theorem RV.move{v j:Value}(h:RV ρ v j):∀ v',VR σ v v'->VR (sigT ρ σ) j v':=by
 refine RV.rec (motive_1:=λv j _=>∀ v',VR σ v v'->VR (sigT ρ σ) j v') (motive_2:=λl D _=>∀ r,VRs σ l r->VRs (sigT ρ σ) D r) ?_ ?_ ?_ ?_ ?_ ?_ ?_ ?_ ?_ ?_ ?_ ?_ h;intro v h v' c;exact HF.move (σ:=σ) (σ':=sigT ρ σ) (λ_ _ h=>h) h v' c;intro B y i h v' c;cases c with|ptr i d=>exact .ptr i (dw h d)
 intro B y i n k h v' c;cases c with
 |slice _ _ _ d K=>exact .slice _ _ _ (dw h d) K
 |sliceU _ d e=>exact .sliceU _ (dw h d) e
 |sliceV _ _ _ d e=>exact .sliceV _ _ _ (dw h d) e
 |sliceE=>exact .sliceE _ _ _
 |gs0 _ _ _ a f=>exact .gs0 _ _ _ a f
 |gs C N O G m d e L J f=>exact .gs C _ _ G _ (dw h d) e L J f
 intro a S v' c;generalize K:unk+2=k at c;generalize e:(0:Nat)=n at c;cases c with
 |slice _ _ _ d P=>omega
 |sliceU _ d e=>omega
 |sliceV _ _ _ d e=>omega
 |sliceE=>exact .sliceE _ _ _
 |gs0 _ o m a f=>omega
 |gs C N O G m d e L J f=>omega
 intro y m f v' c;cases c;exact .gs0 _ _ _ _ f;intro B y h v' c;cases c with|map d=>exact .map (dw h d)
 intro R z Q p M g I H u s v' c;cases c with
 |func _ g I H=>exact .func _ g (u _ I) (s _ H)
 |dat=>simp[Fn.still]at g
 |datN=>simp[Fn.still]at g
 |datE=>simp[Fn.still]at g
 |gp=>simp[Fn.still]at g
 |datP=>simp[Fn.still]at g
 intro t v j _ q v' c;cases c with|iface _ h=>exact .iface _ (q _ h)
 intro z p _ q v' c;cases c with|agg h=>exact .agg (q _ h)
 intro z p _ q v' c;cases c with|tuple h=>exact .tuple (q _ h)
 intro r c;cases c;exact .nil;intro v j l D _ _ x w r c;cases c with|cons a b=>exact .cons (x _ a) (w _ b)
theorem RVs.get:∀ {l a:Lh},RVs ρ l a->∀ {i:Nat}{v1:Value},a[i]? =some v1->∃ v,l[i]? =some v/\RV ρ v v1
 |_,_,.nil,i,v,h=>by simp at h
 | _,_,.cons hv t,i,v,h=>by
  cases i with
  |zero=>grind
  |succ i=>simp at h;obtain⟨b,d,c⟩:=t.get h;exact⟨b,by simpa using d,c⟩
theorem RVs.hf:∀ {l:Lh},(∀x∈l,HF x)->RVs ρ l l
 | [],_=>.nil
 |x::l,h=>.cons (.hf (h x (by simp))) (RVs.hf λy a=>h y (by simp[a]))
inductive REs (ρ:Nat->Lk):Lc->Lc->Prop
 |nil:REs ρ [] []
 |cons {k v v1:Value}{b:Nat}{l l1:Lc}(h:RV ρ v v1) (t:REs ρ l l1):REs ρ ((k,v,b)::l) ((k,v1,b)::l1)
theorem REs.move:∀ {l a:Lc},REs ρ l a->∀ {l'},ERs σ l l'->ERs (sigT ρ σ) a l'
 |_,_,.nil,_,.nil=>.nil
 |_,_,.cons h t,_,.cons he ht=>.cons ⟨he.1,h.move _ he.2.1,he.2.2⟩ (t.move ht)
inductive RO (ρ:Nat->Lk):AObj->AObj->Prop
 |cells {c c1:Lh}{e:TypeId}(h:RVs ρ c c1):RO ρ (.cells c e) (.cells c1 e)
 |ro {c c1:Lh}{e:TypeId}(h:RVs ρ c c1):RO ρ (.ro c e) (.ro c1 e)
 |map {es es1:Lc}{k:Nat}(h:REs ρ es es1):RO ρ (.map es k) (.map es1 k)
 |gro {els tl:Lh}{e:TypeId}(h:∀ x∈ap (els++tl),HF x):RO ρ (.gro els tl e) (.gro (glue els tl) [] e)
 |arr {els rest rest1:Lh}{n:Nat}{e:TypeId}(h:∀ x∈els,HF x) (k:RVs ρ rest rest1):RO ρ (.arr els rest n e) (.arr els rest1 n e)
 |toArr {els rest rest1:Lh}{n:Nat}{e:TypeId}(hl:els.length=n) (h:∀ x∈els,HF x) (k:RVs ρ rest rest1):RO ρ (.cells (els++rest) e) (.arr els rest1 n e)
 |dead:RO ρ .dead .dead
theorem RO.own(h:RO ρ o o1):o1.own=o.own:=by cases h<;>rfl
theorem RO.nilOk(h:RO ρ o o1):o1.nilOk=o.nilOk:=by cases h<;>rfl
theorem RO.here(h:RO ρ o o1):o1.here=o.here:=by cases h<;>rfl
theorem RVs.app:∀ {l b r a:Lh},RVs ρ l b->RVs ρ r a->RVs ρ (l++r) (b++a)
 |_,_,_,_,.nil,h=>h
 |_,_,_,_,.cons h t,k=>.cons h (t.app k)
theorem RO.move{P:Program}{ob:Option Obj}{d cp:Nat}(h:RO ρ o o1)(p:OR P σ ob d cp o):OR P (sigT ρ σ) ob d cp o1:=by
 cases h with
 |cells h=>obtain⟨l,m,q,b,f,e,r⟩:=p;refine⟨l,m,q,b,f,λi v1 a=>?_,r⟩;obtain⟨v,j,g⟩:=h.get a;obtain⟨c,t,s⟩:=e i v j;exact⟨c,t,g.move _ s⟩
 |ro h=>obtain⟨l,z,b,e⟩:=p;refine⟨l,z,b,λi v1 a=>?_⟩;obtain⟨v,j,g⟩:=h.get a;obtain⟨c,t,s⟩:=e i v j;exact⟨c,t,g.move _ s⟩
 |map h=>obtain⟨w,b,f⟩:=p;exact⟨w,b,h.move f⟩
 |gro h=>obtain⟨l,m,q,b,f,e,r⟩:=p;refine⟨l,m,q,b,f,λi v u=>?_,by rw[bW,Hu];exact r⟩;rw[bW,Hu]at u;obtain⟨c,j,g⟩:=e i v u;exact⟨c,j,HF.move (σ:=σ) (σ':=sigT ρ σ) (λ_ _ h=>h) (h v (HR u)) c g⟩
 |arr h k=>obtain⟨⟨l,m,q,b,f,e,r⟩,y⟩:=p;refine⟨⟨l,m,q,b,f,λi v1 a=>?_,r⟩,y⟩;obtain⟨v,j,g⟩:=((RVs.hf h).app k).get a;obtain⟨c,t,s⟩:=e i v j;exact⟨c,t,g.move _ s⟩
 |toArr x h k=>obtain⟨l,m,q,b,f,e,r⟩:=p;refine⟨⟨l,m,q,b,f,λi v1 a=>?_,r⟩,x⟩;obtain⟨v,j,g⟩:=((RVs.hf h).app k).get a;obtain⟨c,t,s⟩:=e i v j;exact⟨c,t,g.move _ s⟩
 |dead=>exact p
def ofL{α :Type}:List (Nat× α)->T α ->Option (T α)
 | [],t=>some t
 | x::l,t=>match T.set 64 t x.1 x.2 with
   |some t'=>ofL l t'
   |none=>none
theorem dD{b :Type}:∀ {l:List (Nat× b)}{t a:T b},ofL l t=some a->∀ {k:Nat}{x: b},a.get k=some x->(k,x)∈l∨t.get k=some x
 | [],t,a,h,k,x,hx=>by grind [ofL,osI]
 |y::l,t,a,h,k,x,hx=>by simp only[ofL]at h;split at h;rename_i e d;rcases dD h hx with c|c;exact .inl (by simp[c]);rw[H6 d]at c;grind;cases h
def back:Ld->Nat->Lk
 | [],_=>none
 |x::m,B=>bif Nat.beq B x.1 then some x.2 else back m B
def bq(nx:Nat):Ld->Bool
 | []=>true
 |x::m=>Nat.blt x.1 nx&&(m.all λy=> !Nat.beq x.2 y.2)&&bq nx m
theorem ba:∀ {m:Ld}{B' B:Nat},back m B'=some B->(B',B)∈m
 |x::m,B',B,h=>by simp only[back,beq_eq]at h;by_cases e:B'=x.1;grind;simp only[e,IV,HJ]at h;exact HO _ (ba h)
theorem cx{nx:Nat}:∀ {m:Ld},bq nx m=true->∀ {B' B:Nat},(B',B)∈m->B'<nx
 |x::m,h,B',B,hm=>by simp only[bq,f',blt_eq,HL]at h;rcases HE.1 hm with e|e;subst e;exact h.1.1;exact cx h.2 e
theorem dt{nx:Nat}:∀ {m:Ld},bq nx m=true->∀ {d B2 B:Nat},back m d=some B->back m B2=some B->d=B2
 | x::m,h,d,B2,B,h1,h2=>by
  simp only[bq,f',blt_eq,HL]at h;have a:∀ y∈m,x.2≠y.2:=λy f e=>by grind [HV,beq_eq]
  simp only[back,beq_eq]at h1 h2;by_cases c:d=x.1;by_cases b:B2=x.1;rw[c,b];simp only[c,IZ,C',osI]at h1;simp only[b,IV,HJ]at h2;exact absurd h1 (a _ (ba h2));by_cases b:B2=x.1;simp only[b,IZ,C',osI]at h2;simp only[c,IV,HJ]at h1;exact absurd h2 (a _ (ba h1));simp only[c,b,IV,HJ]at h1 h2;exact dt h.2 h1 h2
inductive RenF (m:Ld) (F:T Value):List (Nat×Value)->Prop
 |nil:RenF m F []
 |cons {t:Nat}{v v1:Value}{l:List (Nat×Value)}(h:F.get t=some v) (r:RV (back m) v v1) (k:RenF m F l):RenF m F ((t,v1)::l)
inductive RenH (m:Ld) (A:AH):List (Nat×AObj)->Prop
 |nil:RenH m A []
 |cons {B B':Nat}{o o1:AObj}{l:List (Nat×AObj)}(hm:back m B'=some B) (h:A.t.get B=some o) (r:RO (back m) o o1) (k:RenH m A l):RenH m A ((B',o1)::l)
theorem RenF.mem{m:Ld}:∀ {l:List (Nat×Value)},RenF m F l->∀ {t:Nat}{v1:Value},(t,v1)∈l->∃ v,F.get t=some v/\RV (back m) v v1
 |_,.cons h r k,t,v1,hm=>by rcases HE.1 hm with e|e;cases e;exact⟨_,h,r⟩;exact k.mem e
theorem RenH.mem{m:Ld}:∀ {l:List (Nat×AObj)},RenH m A l->∀ {B':Nat}{o1:AObj},(B',o1)∈l->∃ B o,back m B'=some B/\A.t.get B=some o/\RO (back m) o o1
 |_,.cons hB h r k,B',o1,hm=>by rcases HE.1 hm with e|e;cases e;exact⟨_,_,hB,h,r⟩;exact k.mem e
def Turns(E:Env)(A0:AH)(n:Nat)(F:T Value)(A:AH)(F1:T Value)(b:AH):Prop:=∀ σ0 w0 a w,At E σ0 A0 w0 n F A a w->At E σ0 A0 w0 n F1 b a w
theorem Turns.refl:Turns E A0 n F A F A:=λ_ _ _ _ h=>h
theorem Turns.renK{F1:T Value}{t1:T AObj}(a0:GlOk E)(m:Ld)(Y:List (Nat×Value))(V:List (Nat×AObj))(nx:Nat)
 (C:∀ B,B<A0.next->back m B=some B) (K:A0.next<=nx) (M:bq nx m=true) (hf:ofL Y .leaf=some F1) (hh:ofL V .leaf=some t1) (rf:RenF m F Y) (rh:RenH m A V):Turns E A0 n F A F1 ⟨t1,nx⟩:=by
 intro H w0 a w ⟨σ,P,R,hg,X⟩;have O:∀ {t:Nat}{v1:Value},F1.get t=some v1->∃ v,F.get t=some v/\RV (back m) v v1:=λh=>by rcases dD hf h with h|h;exact rf.mem h;simp[T.get]at h
 have k:∀ {l:Nat}{o1:AObj},t1.get l=some o1->∃ B o,back m l=some B/\A.t.get B=some o/\RO (back m) o o1:=λh=>by rcases dD hh h with h|h;exact rh.mem h;simp[T.get]at h
 refine⟨sigT (back m) σ,⟨P.size,λt u hu=>?_,P.defers⟩,⟨?_,?_,?_,?_,?_,?_,λl h=>?_⟩,(λg cs h=>hg g cs h),⟨?_,?_,X.size,X.frame,?_,?_,X.os,X.tape,X.output,X.sro,X.rog,λB G=>?_⟩⟩;obtain⟨v,j,i⟩:=O hu;exact i.move _ (P.val t v j);intro l o1 h y;obtain⟨B,o,j,i,q⟩:=k h;rcases R.obj0 B o i (by rw[<-q.here];exact y)with⟨b,d,c,U,S⟩|⟨U,S⟩;exact .inl ⟨b,d,c,dw j U,q.move S⟩;exact .inr ⟨q.nilOk.trans U,B,j,S⟩;intro B1 B2 o1 o2 x1 x2 j i s N L J I;obtain⟨C1,p1,a1,a2,a3⟩:=k j;obtain⟨C2,p2,b1,b2,b3⟩:=k i;obtain⟨D1,p,z⟩:=bN J;obtain⟨D2,Z,e2⟩:=bN I;rw[a1]at p;cases p;rw[b1]at Z;cases Z;exact R.inj C1 C2 p1 p2 x1 x2 a2 b2 (by rw[<-a3.own];exact s) (by rw[<-b3.here];exact N) (λe=>by subst e;exact L (dt M a1 b1)) z e2;intro l x r;obtain⟨B,_,i⟩:=bN r;exact R.lt B x i;intro l Q;show(back m l).bind σ.f=none;cases hb:back m l with
 |none=>rfl
 |some B=>exact absurd (cx M (ba hb)) (by simp at Q;omega)
 exact R.ro;intro l o1 x h s r;obtain⟨B,o,j,i,q⟩:=k h;obtain⟨D,p,z⟩:=bN r;rw[j]at p;cases p;exact R.sep B o x i (by rw[<-q.own];exact s) z;obtain⟨B,j,i⟩:=h;refine⟨cx M (ba j),?_⟩;show(back m l).bind σ.f=none;rw[j];exact(R.nl B i).2;intro B G;show(back m B).bind σ.f=H.f B;rw[C B G];exact X.sig B G;exact K;intro l o1 x h s r;obtain⟨B,o,j,i,q⟩:=k h;obtain⟨D,p,z⟩:=bN r;rw[j]at p;cases p;exact X.orig B o x i (by rw[<-q.own];exact s) z;intro l o1 x h s r;obtain⟨B,o,j,i,q⟩:=k h;obtain⟨D,p,z⟩:=bN r;rw[j]at p;cases p;exact X.orig2 B o x i (by rw[<-q.here];exact s) z;refine Iff.trans ⟨λ⟨l,j,i⟩=>?_,λh=>⟨B,C B G,h⟩⟩ (X.snl B G);grind
theorem Turns.ren{F1:T Value}{t1:T AObj}(c:GlOk E)(j:A0.next=0)(m:Ld)(b:List (Nat×Value))(a:List (Nat×AObj))(nx:Nat)
 (f:bq nx m=true) (h:ofL b .leaf=some F1) (g:ofL a .leaf=some t1) (e:RenF m F b) (d:RenH m A a):Turns E A0 n F A F1 ⟨t1,nx⟩:=
 Turns.renK c m b a nx (λB i=>by omega) (by omega) f h g e d
section
variable {E:Env}{A0:AH}{n:Nat}{Q:Post}{F F1:T Value}{A A1:AH}
variable {A:AH}{els:Lh}{B m:Nat}{P:Program}{σ:Sig}{t1:T AObj}{e:TypeId}{w:World}
theorem Turns.trans{g:AH}{f:T Value}(h:Turns E A0 n F A F1 A1)(k:Turns E A0 n F1 A1 f g):Turns E A0 n F A f g:=fun b d a w c=>k b d a w (h b d a w c)
theorem Turns.nilSlot{t:Nat}(l:unk+3<=m)(j:F.get t=some (.slice none 0 0))(p:T.set 64 F t (.slice (some ⟨A.next,0,none⟩) 0 m)=some F1)(k:T.set FU A.t A.next (.gro [] [] e)=some t1):Turns E A0 n F A F1 ⟨t1,A.next+1⟩:=by
 intro g q a w ⟨σ,f,R,o,X⟩;obtain⟨i,h⟩:=Rel.nilGro R k;have c:=dZ σ A.next
 refine⟨nilU σ A.next,⟨f.size,λd v b=>?_,f.defers⟩,i,o.sub c,X.trans h⟩;have b:F1.get d=some v:=b;rw[H6 p]at b;split at b;rename_i e;subst e;cases b;have:=f.val d _ j;generalize a.tmps.getD d undef=y at this ⊢;cases this;exact .gs0 _ _ _ none l;exact(f.val d v b).mono c
def sigZ(σ:Sig)(w:World)(b:Nat):Sig:=⟨σ.f,λb'=>if b'=b then w.heap[b]? else σ.ro b',σ.nl⟩
theorem Rel.freeze(R:Rel P σ A w){f b d c:Nat}{o:AObj}{t:T AObj}(J:A.t.get B=some o)(I:o.own=true)(s:σ B=some (b,d,c))(U:T.set f A.t B .dead=some t):
 σ.sub (sigZ σ w b)/\Rel P (sigZ σ w b) ⟨t,A.next⟩ w/\Ext σ A w (sigZ σ w b) ⟨t,A.next⟩ w:=by
 have V:=H6 U;have H:σ.ro b=none:=R.sep B o _ J I s;have j:σ.sub (sigZ σ w b):=⟨λ_ _ h=>h,λl a h=>by show(if l=b then w.heap[b]? else σ.ro l)=some a;grind⟩
 have i:∀ {g:Nat}{a:AObj},t.get g=some a->a.here=true->g≠B/\A.t.get g=some a:=fun {g a} h D=>by rw[V]at h;by_cases e:g=B;rw[Ht e]at h;grind [osI,AObj.here];rw[Hm e]at h;exact⟨e,h⟩
 refine⟨j,⟨λg a h D=>?_,λB1 B2 N M x L y r u v q z C=>?_,R.lt,R.fresh,λl a h=>?_,λg a x h p z=>?_,R.nl⟩,⟨λ_ _=>rfl,Hw _,Hw _,λ_ _ _=>rfl,λg a x y r G=>.inr ⟨g,a,x,(i y (AObj.here_of_own r)).2,r,G,rfl⟩,λg a x y r G=>.inr ⟨g,a,x,(i y r).2,r,G,rfl⟩,rfl,rfl,rfl,λl a h=>j.ro l a h,λl a h=>?_,λ_ _=>JC⟩⟩;rcases R.obj0 g a (i h D).2 D with⟨Z,X,Y,S,O⟩|k;exact .inl ⟨Z,X,Y,S,O.mono j⟩;exact .inr k;exact R.inj B1 B2 N M x L (i y (AObj.here_of_own u)).2 (i r v).2 u v q z C;have h:(if l=b then w.heap[b]? else σ.ro l)=some a:=h;split at h;rename_i e;subst e;exact h;exact R.ro l a h;obtain⟨q,K⟩:=i h (AObj.here_of_own p);show(if x.1=b then w.heap[b]? else σ.ro x.1)=none;rw[Hm (λe=>R.inj B g o a _ _ J K I (AObj.here_of_own p) (λe=>q e.symm) s z e.symm)];exact R.sep g a x K p z;have h:(if l=b then w.heap[b]? else σ.ro l)=some a:=h;grind
theorem FD(R:Rel P σ A w){B2 n k sz:Nat}{c2:Lh}{e2:TypeId}(r:A.t.get B2=some (.cells c2 e2))(O:k<unk)(q:n<=k)
 (g:els.length=n) (o:∀ x∈els,x.cells.size=sz) (G:ap els=c2.take (n*sz)) (N:n*sz<=c2.length) (l:T.set FU A.t B2 .dead=some t1):
 ∃σ',Rel P σ' ⟨t1,A.next⟩ w/\Ext σ A w σ' ⟨t1,A.next⟩ w/\∀ v',VR σ' (.slice (some ⟨B2,0,none⟩) n k) v'->VR σ' (.func (.yield sz) ⟨els⟩ ⟨[]⟩) v':=by
 obtain⟨b,d,c,a,J,s,D,I,X,H,V,U⟩:=R.obj B2 _ r rfl;obtain⟨f,L,K⟩:=R.freeze r rfl a l;refine⟨_,L,K,λv' y=>?_⟩;have j:v'=.slice (some ⟨b,d+0,none⟩) n k:=by
  cases y with
  |slice _ _ _ h _=>have h:σ B2=_:=h;rw[a]at h;cases h;rfl
  |sliceU _ h _=>omega
  |sliceV _ _ _ h _=>omega
  |sliceE=>omega
  |gs0 _ _ _ _ z=>omega
  |gs _ _ _ _ _ _ _ _ _ z=>omega
 subst j;subst g;have p:(sigZ σ w b).ro b=some (.cells J e2 (s,D)):=by show(if b=b then w.heap[b]? else σ.ro b)=_;rw[Ht rfl];exact I
 refine .dat p o q ?_;rw[G];refine VRs.mono f (VRs.of_get ?_ λi v C=>?_);simp only[Ic,J7,JP];by_cases M:els.length*sz=0;omega;obtain⟨u,S,_⟩:=H (els.length*sz-1) _ (Hr (by omega));grind;grind
theorem wX(R:Rel P σ A w){B2 n:Nat}{tl:Lh}{e2:TypeId}(J:A.t.get B2=some (.gro els tl e2))(I:isG m=true)(C:P.cellsOf e2=gsz m)
 (j:(els++tl).length=n) (l:T.set FU A.t B2 .dead=some t1):
 ∃σ',Rel P σ' ⟨t1,A.next⟩ w/\Ext σ A w σ' ⟨t1,A.next⟩ w/\∀ v',VR σ' (.slice (some ⟨B2,0,none⟩) n m) v'->VR σ' (.func (.yield (gsz m)) ⟨els++tl⟩ ⟨[]⟩) v':=by
 have g:∀ σ':Sig,∀a,(els++tl).length=0->VR σ' (.func (.yield (gsz m)) ⟨els++tl⟩ ⟨[]⟩) (.slice a 0 0):=fun σ' a h=>by
  rw[H0 h];cases a with
  |none=>exact .datN _
  |some a=>exact .datE _ _ _
 rcases R.obj0 B2 _ J rfl with⟨b,d,c,q,ca,K,N,X,g2,V,D,U,S⟩|⟨_,y⟩;obtain⟨r,R1,X1⟩:=R.freeze J rfl q l;refine⟨_,R1,X1,λv' p=>?_⟩;rcases b7 p I with⟨G,a,o⟩|⟨b',Z,c',s,k,f,o,L,O,Y⟩;rw[o];exact g _ a (j.trans G);have f:σ B2=_:=f;rw[q]at f;cases f;have x:(sigZ σ w b).ro b=some (.cells ca e2 (K,N)):=by show(if b=b then w.heap[b]? else σ.ro b)=_;rw[Ht rfl];exact X
 rw[o,<-j];rw[C]at D U;refine .dat x D (by omega) ?_;refine VRs.mono r (VRs.of_get ?_ λi v z=>?_);rw[aE D];have H:(els++tl).length*gsz m<=c*gsz m:=H5 _ S;grind;obtain⟨u,k1,p⟩:=V i v z;refine⟨u,?_,p⟩;have M:i<(els++tl).length*gsz m:=by grind [Hx,aE]
 grind;refine⟨σ,R.dead l,Ext.dead l,λv' p=>?_⟩;rcases b7 p I with⟨G,a,o⟩|⟨b',Z,c',s,k,f,o,L,O,Y⟩;rw[o];exact g _ a (j.trans G);rw[(R.nl B2 y).2]at f;cases f
theorem te(R:Rel P σ A w){p:Nat}{tl a:Lh}{v j:Value}{t:T AObj}(I:A.t.get B=some (.gro els tl e))(G:(ap tl)[p]? =some v)(z:∀ v',VR σ v v'->VR σ j v')(H:ap a=(ap tl).set p j)
 (D:∀ x∈a,x.cells.size=P.cellsOf e) (k:a.length=tl.length) (C:T.set FU A.t B (.gro els a e)=some t):Rel P σ ⟨t,A.next⟩ w/\Ext σ A w σ ⟨t,A.next⟩ w:=
 Rel.retell (o2:=.gro els a e) R I C rfl rfl rfl (λS N O h=>by obtain⟨J,d,g,r,q,o,L,l,K⟩:=h;refine⟨J,d,g,r,q,λi u b=>?_,λx M=>?_,l,by grind⟩;rw[bv,H,Ii]at b;have c:=λi v h=>o i v h;simp only[bv,Ii]at c;split at b;grind;rename_i f;rw[I4]at b;split at b;rename_i e;split at b;cases b;obtain⟨v',y,s⟩:=c i v (by rw[Hm f,<-e];exact G);exact⟨v',y,z v' s⟩;cases b;simp_all;grind)
theorem Turns.nilCell{j:Nat}{k:TypeId}{c:Lh}{t2:T AObj}(G:unk+3<=m)(K:A.t.get B=some (.cells c k))(C:c[j]? =some (.slice none 0 0))(D:T.set FU A.t B (.cells (c.set j (.slice (some ⟨A.next,0,none⟩) 0 m)) k)=some t1)(g:T.set FU t1 A.next (.gro [] [] e)=some t2):
 Turns E A0 n F A F ⟨t2,A.next+1⟩:=by
 intro o S a w ⟨σ,J,R,I,X⟩;obtain⟨u,s⟩:=Rel.retell (o2:=.cells (c.set j (.slice (some ⟨A.next,0,none⟩) 0 m)) k) R K D rfl rfl rfl (λb d U h=>by obtain⟨O,x,H,N,M,l,L⟩:=h;refine⟨O,x,H,N,M,λi v f=>?_,L⟩;rw[I4]at f;split at f;rename_i e;subst e;split at f;cases f;obtain⟨p,z,y⟩:=l j _ C;refine⟨p,z,?_⟩;cases y;exact .gs0 _ _ _ none G;cases f;exact l i v f)
 obtain⟨r,q⟩:=Rel.nilGro (A:=⟨t1,A.next⟩) u g;exact⟨nilU σ A.next,J.mono (dZ σ _),r,I.sub (dZ σ _),X.trans (s.trans q)⟩
theorem Turns.nilArr{j f:Nat}{k:TypeId}{rest:Lh}{t2:T AObj}(G:unk+3<=m)(K:A.t.get B=some (.arr els rest f k))(C:rest[j]? =some (.slice none 0 0))(D:T.set FU A.t B (.arr els (rest.set j (.slice (some ⟨A.next,0,none⟩) 0 m)) f k)=some t1)(g:T.set FU t1 A.next (.gro [] [] e)=some t2):
 Turns E A0 n F A F ⟨t2,A.next+1⟩:=by
 intro o V a w ⟨σ,J,R,I,X⟩;obtain⟨u,s⟩:=Rel.retell (o2:=.arr els (rest.set j (.slice (some ⟨A.next,0,none⟩) 0 m)) f k) R K D rfl rfl rfl (λb d Y h=>by
  obtain⟨⟨U,x,H,O,N,l,M⟩,L⟩:=h;refine⟨⟨U,x,H,O,N,λi v c=>?_,M⟩,L⟩;have S:els++rest.set j (.slice (some ⟨A.next,0,none⟩) 0 m)=(els++rest).set (els.length+j) (.slice (some ⟨A.next,0,none⟩) 0 m):=by grind
  rw[S,I4]at c;split at c;rename_i e;subst e;split at c;cases c;obtain⟨p,z,y⟩:=l (els.length+j) _ (by rw[Ip (by omega),show els.length+j-els.length=j by omega];exact C);refine⟨p,z,?_⟩;cases y;exact .gs0 _ _ _ none G;cases c;exact l i v c)
 obtain⟨r,q⟩:=Rel.nilGro (A:=⟨t1,A.next⟩) u g;exact⟨nilU σ A.next,J.mono (dZ σ _),r,I.sub (dZ σ _),X.trans (s.trans q)⟩
theorem W.loopT{b:Code}(I:Nat->T Value->AH->Prop)(g:∀ m F A,I m F A->W E A0 n b (Then (λt A'=>∃ i F1 A1,i<m/\I i F1 A1/\Turns E A0 n t A' F1 A1) Q) F A)(h:I m F1 A1)(x:Turns E A0 n F A F1 A1):W E A0 n (.loop b) Q F A:=by
 intro f r a w d q s;have j:∀ k m F A a w,m<k->I m F A->At E f A0 r n F A a w->Code.rounds E.P b q k a w:=by
  intro k;induction k with
  |zero=>intro m F A a w z;omega
  |succ k v=>
  intro m F A a w z C d;show b.wp E.P (Exit.then (Code.rounds E.P b q k) q) a w;refine g m F A C f r a w d _ λD t A' G u o c=>?_;cases D with
  |normal=>obtain⟨i,H,J,y,p,l⟩:=o;exact v i H J G u (by omega) p (l _ _ _ _ c)
  |exit id=>exact s _ _ _ _ _ o c
  |ret=>exact s _ _ _ _ _ o c
 exact JZ (m+1) (j (m+1) m F1 A1 a w (I9 _) h (x _ _ _ _ d))
theorem W.turns{c:Code}(a:Turns E A0 n F A F1 A1)(k:W E A0 n c Q F1 A1):W E A0 n c Q F A:=W.turn a k
end
def one(a:Lh)(v:Value):Lh->Lj:=λargs=>open Classical in if args=a then some v else none
theorem mi(a:Lh)(v:Value):one a v a=some v:=by simp[one]
theorem qo{E:Env}(e:E.Ok)(b:GlOk E){f:FuncId}{fn:Func}(c:E.fn f=some fn){a:Lh}{v:Value}(i:∀ x∈a,HF x)(g:Walk E fn a v):Con E f (dC (one a v)):=
 Ae e b c λd u h=>by grind [one]
theorem aF{x:Int}(b: -9223372036854775808<=x)(a:x<9223372036854775808):IntKind.i64.wrap x=x:=by
 have e:(2:Int) ^ IntKind.i64.bits=18446744073709551616:=by decide
 have d:(2:Int) ^ (IntKind.i64.bits-1)=9223372036854775808:=by decide
 have c:IntKind.i64.signed=true:=rfl;unfold IntKind.wrap;grind
end
end Go.AM
namespace Go.AM
open Go.ChangeShapes
variable {R:Lh->Prop}{base:Nat}{P:Program}{t:TypeId}{w:World}
def gA(P:Program)(t:TypeId)(R:Lh->Prop):Prop:=∀ {H:Type}(enc:TypeId×Value->H) (w:World) (base:Nat) (sp:Nat->Bool) (held:Bool) (fuel:Nat) (cs:Lh) (x:DataW H×List MemPlace),
 DataW.trod enc P w base sp held fuel t cs=some x->∃ acs,R acs/\VRs (sig0 w) acs cs
theorem vz{k:IntKind}(e:P.underlying t=some (.int k)):gA P t (λa=>∃ n,a=[.int k n]/\(Lit.int k n).wf=true):=by intro H f w base g b c i x h;obtain⟨n,rfl,_,d⟩:=DataW.trod_int e h;exact⟨_,⟨n,rfl,d⟩,.cons (.int _ _) .nil⟩
theorem tv(e:P.underlying t=some .bool):gA P t (λa=>∃ b,a=[.bool b]):=by intro H f w base g c d i x h;obtain⟨b,rfl,_⟩:=DataW.trod_bool e h;exact⟨_,⟨b,rfl⟩,.cons (.bool _) .nil⟩
inductive OpensAll (P:Program):List Field->Nat->(Lh->Prop)->Prop
 |nil {o:Nat}:OpensAll P [] o (λacs=>acs=[])
 |cons {f:Field}{fs:List Field}{o:Nat}{R S:Lh->Prop}(ho:f.offset=o) (h:gA P f.type R) (k:OpensAll P fs (o+P.cellsOf f.type) S):OpensAll P (f::fs) o (λacs=>∃ a b,R a/\S b/\acs=a++b)
theorem iT{P:Program}{H:Type}{enc:TypeId×Value->H}{w:World}{base:Nat}{sp:Nat->Bool}{held:Bool}{n:Nat}{cs:Lh}{tot:Nat}:∀ {fs:List Field}{o:Nat}{R:Lh->Prop},OpensAll P fs o R->
 (∀f∈fs,∃x,DataW.trod enc P w base sp held n f.type ((cs.drop f.offset).take (P.cellsOf f.type))=some x)->cs.length=o+(fs.map λf=>P.cellsOf f.type).sum->∃ c,R c/\VRs (sig0 w) c (cs.drop o)
 |_,o,_,.nil,_,hl=>⟨[],rfl,by have:cs.drop o=[]:=Is (by simp at hl;omega);rw[this];exact .nil⟩
 | _,o,_,.cons (f:=f) (fs:=fs) ho h k,hf,hl=>by
  obtain⟨x,j⟩:=hf f (by simp);obtain⟨a,p,d⟩:=h enc w base sp held n _ x j;obtain⟨b,m,i⟩:=iT (tot:=tot) k (λg l=>hf g (by simp[l])) (by grind);refine⟨a++b,⟨a,b,p,m,rfl⟩,?_⟩;rw[ho]at d;have e:cs.drop o=(cs.drop o).take (P.cellsOf f.type)++cs.drop (o+P.cellsOf f.type):=by grind [JF,Ji]
  rw[e];exact d.append i
theorem n9{fs:Array Field}(j:P.underlying t=some (.struct fs))(l:P.cellsOf t=(fs.toList.map λf=>P.cellsOf f.type).sum)(h:OpensAll P fs.toList 0 R):gA P t R:=by
 intro H b w base c a e g x i;obtain⟨m,n,_,_,k,o,d⟩:=DataW.trod_struct j i;have:=iT (tot:=0) (enc:=b) (w:=w) (base:=base) (sp:=c) (held:=a) (n:=n) (cs:=g) h (λf p=>by grind [List.getElem?_of_mem,Array.getElem?_eq_some_iff,Hr]) (by rw[k,l];simp)
 simpa using this
theorem As{a:Addr}(h:a.spot=none)(x y:Nat):(a.add x).add y=⟨a.block,a.off+x+y,none⟩:=by obtain⟨b,o,s⟩:=a;simp only at h;subst h;unfold Addr.add;grind
theorem C8{P:Program}{a:Addr}{len sz:Nat}{m :Type}{ev: m ->Value}(n:0<sz)(F:∀ x,(ev x).cells.toList.length=sz)
 (h:∀ i,i<len->∃ b x,w.cells? base (a.add (i*sz)) sz=some b/\VRs (sig0 w) (ev x).cells.toList b) (l:0<len):
 ∃(c:Array Value) (e:TypeId) (fz:Nat×Nat) (f:List m),a.spot=none/\w.heap[a.block]? =some (.cells c e fz)/\f.length=len/\VRs (sig0 w) (ap (f.map ev)) ((c.toList.drop a.off).take (len*sz)):=by
 have d:∀ i,i<len->∃ b x,(∀j,j<sz->w.cell? ((a.add (i*sz)).add j)=b[j]?)/\b.length=sz/\VRs (sig0 w) (ev x).cells.toList b:=λi u=>by obtain⟨b,x,I,H⟩:=h i u;obtain⟨J,z,r⟩:=World.cells?_some I;exact⟨b,x,r,z,H⟩
 obtain⟨M,N,K,Q,_⟩:=d 0 l;have q:∃ v,w.cell? a=some v:=by have:=K 0 n;simp only[Nat.zero_mul,Addr.add,Jt]at this;grind
 obtain⟨O,g⟩:=q;unfold World.cell? at g;split at g;case h_2=>cases g
 rename_i c e fz G;have o:a.spot=none:=by simp_all
 have y:∀ i j,i<len->j<sz->∀ b:Lh,(∀j,j<sz->w.cell? ((a.add (i*sz)).add j)=b[j]?)->c.toList[a.off+i*sz+j]? =b[j]?:=λi j u E b p=>by rw[<-p j E];have s:=As (a:=a) o (i*sz) j;rw[s];unfold World.cell?;simp[G]
 have A:∀ k,k<=len->∃ f:List m,f.length=k/\VRs (sig0 w) (ap (f.map ev)) ((c.toList.drop a.off).take (k*sz)):=by
  intro k;induction k with
  |zero=>intro _;exact⟨[],rfl,by simp[ap];exact .nil⟩
  |succ k B=>
  intro S;obtain⟨f,D,C⟩:=B (by omega);obtain⟨b,x,J,z,r⟩:=d k (by omega);refine⟨f++[x],by simp[D],?_⟩;have s:ap ((f++[x]).map ev)=ap (f.map ev)++(ev x).cells.toList:=by simp[ap]
  have L:(c.toList.drop a.off).take ((k+1)*sz)=(c.toList.drop a.off).take (k*sz)++b:=by rw[JT,List.take_add];congr 1;apply I3;grind
  rw[s,L];exact C.append r
 simp_all
theorem gi{e:TypeId}{B :Type}{ev: B ->Value}{sz:Nat}(I:P.underlying t=some (.slice e))(K:P.cellsOf e=sz)(r:0<sz)(u:∀ x,(ev x).cells.toList.length=sz)(h:gA P e R)
 (hR:∀ d,R d->∃ x,d=(ev x).cells.toList):gA P t (λd=>∃ p:List B,d=[.func (.yield sz) ⟨p.map ev⟩ ⟨[]⟩]/\p.length<=maxLen):=by
 intro H z w base F q C cs x G;rcases Go.Deep.open_slice I G with⟨rfl,_⟩|⟨a,j,A,m,n,D,Pl,rfl,hb,Z,Y,s,_,g⟩;exact⟨_,⟨[],rfl,by simp⟩,.cons (.datN _) .nil⟩;rw[K]at g;have J:j<=m:=by rw[s];split<;>omega
 have l:∀ i,i<j->∃ f x,w.cells? base (a.add (i*sz)) sz=some f/\VRs (sig0 w) (ev x).cells.toList f:=λi hi=>by obtain⟨f,h1,M⟩:=g i (by omega);obtain⟨d,V,U⟩:=h z w base F q n f _ M;grind
 by_cases N:j=0;subst N;exact⟨_,⟨[],rfl,by simp⟩,.cons (.datE _ _ _) .nil⟩;obtain⟨c,E,v,p,g1,Q,O,g4⟩:=C8 (P:=P) r u l (by omega);refine⟨_,⟨p,rfl,by omega⟩,.cons ?_ .nil⟩;have S:a=⟨a.block,a.off,none⟩:=by cases a;simp_all
 rw[S,<-O];have:(sig0 w).ro a.block=some (.cells c E v):=Q;have L:=VR.dat (σ:=sig0 w) (b:=a.block) (o:=a.off) (k:=A) (sz:=sz) (e:=E) (fz:=v) (c:=c) (els:=p.map ev) this (λy X=>by grind) (by simp;omega) (by grind)
 simpa using L
theorem tu(h:gA P t R){H:Type}{enc:TypeId×Value->H}{sp:Nat->Bool}{held:Bool}{v:Value}{d:DataW H}{c:List MemPlace}(f:DataW.Trod enc P w base sp held t v d c):∃ b,R b/\VRs (sig0 w) b v.cells.toList:=by obtain⟨a,e⟩:=f;exact h enc w base sp held a _ _ e
theorem uo{fs:Array Field}(f:P.underlying t=some (.struct fs))(h:gA P t R){H:Type}{enc:TypeId×Value->H}{r:Reach}{j:Nat}{sp:Nat->Bool}{held:Bool}{v:Value}{d:DataW H}{c:List MemPlace}
 (b:Value.okWide P w r j t v) (g:DataW.Trod enc P w base sp held t v d c):∃ a,R a/\VR (sig0 w) (.agg ⟨a⟩) v:=by unfold Value.okWide at b;rw[f]at b;obtain⟨k,rfl,_⟩:=b;obtain⟨a,i,e⟩:=tu h g;exact⟨a,i,.agg e⟩
end Go.AM
