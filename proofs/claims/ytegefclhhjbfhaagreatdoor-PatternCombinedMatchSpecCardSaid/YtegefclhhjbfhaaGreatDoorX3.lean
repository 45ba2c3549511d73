/- A part of the proof. -/
import Derived.Test.YtegefclhhjbfhaaGreatDoorX2
set_option linter.unusedVariables false
set_option linter.unusedSimpArgs false
set_option linter.unusedSectionVars false
set_option maxRecDepth 1000000
namespace Go.T9
open Go Go.AM Go.MK Go.Proofs.Tryz
noncomputable section
variable {k:PR}
theorem EA(K:KV)(x:Bool)(y:Bool):jCv0 K x y=(Sp y (K (Value.bool !x) (AH.mk Lf 0)) (K (Value.bool false) (AH.mk Lf 0))):=by kernel_rfl
theorem Ez(K:KV)(x:Bool)(y:Bool):jCv1 K x y=(Sp x (K (Value.bool y) (AH.mk Lf 0)) (K (Value.bool false) (AH.mk Lf 0))):=by kernel_rfl
theorem Ey(K:KV)(x:Bool)(y:Bool):jCv2 K x y=(Sp x (K (Value.bool true) (AH.mk Lf 0)) (K (Value.bool y) (AH.mk Lf 0))):=by kernel_rfl
theorem Ew(K:KV)(x:Bool)(y:Bool):jCv3 K x y=(Sp x (K (Value.bool !y) (AH.mk Lf 0)) (K (Value.bool false) (AH.mk Lf 0))):=by kernel_rfl
abbrev KZ:=λa b=>d_ [Vi a,Vi b]
theorem Mb(K:KV)(x y c s:Int)(e:Li)(b:La)(d:Int)(f:Li)(a:La):jSp K x y c s e b d f a=((0<=x/\x<KY b)/\nth (roV b) (G_ (o_ x))=some (Vd 1 (r_ b x))/\(0<=c/\c<j_ (r_ b x))/\nth (r_ b x) (G_ (o_ c))=some (Vi (aa (r_ b x) (o_ c)))/\(0<=y/\y<KY a)/\nth (roV a) (G_ (o_ y))=some (Vd 1 (r_ a y))/\(0<=c/\c<j_ (r_ a y))/\nth (r_ a y) (G_ (o_ c))=some (Vi (aa (r_ a y) (o_ c)))/\K (KZ (aa (r_ b x) (o_ c)) (aa (r_ a y) (o_ c))) (K_ (Kw (KJ [Vi (aa (r_ b x) (o_ c)),Vi (aa (r_ a y) (o_ c))] 78) (h_ d f a)) (h_ s e b) (KJ [Vi x,Vi y] 78) 24)):=by kernel_rfl
theorem jSp_nf:type_of%(by have h:=@Mb;revert h;delta d_ h_ j_ m_ o_ r_ G_ K_ Kw KJ KY KZ;exact id):=@Mb
theorem Mc(K:KV)(x y c s:Int)(b:Li)(a:La):jSs K x y c s b a=((0<=x/\x<KY a)/\nth (roV a) (G_ (o_ x))=some (Vd 1 (r_ a x))/\(0<=c/\c<j_ (r_ a x))/\nth (r_ a x) (G_ (o_ c))=some (Vi (aa (r_ a x) (o_ c)))/\K (KZ (aa (r_ a x) (o_ c)) 0) (K_ (KJ [Vi x,Vi y] 78) (h_ s b a) (KJ [Vi (aa (r_ a x) (o_ c)),Vi 0] 78) 3)):=by kernel_rfl
theorem jSs_nf:type_of%(by have h:=@Mc;revert h;delta d_ h_ j_ m_ o_ r_ G_ K_ KJ KY KZ;exact id):=@Mc
theorem jAs_nf(K:KV)(x y s:Int)(a:Li)(b:La):jAs K x y s a b=((0<=x/\x<(↑(List.length (blV a)):Int))/\nth (blV a) (Int.toNat (↑(Int.toNat x):Int))=some (Value.bool (az (blV a) (↑(Int.toNat x):Int)))/\K (Value.bool (az (blV a) (↑(Int.toNat x):Int))) (AH.mk (Ns (Sg (AObj.cells [Vi x,Vi y] 78)) (AObj.cells [Vi s,Vd 1 (blV a),Vd 1 (roV b)] 25) Lf) 2)):=by kernel_rfl
abbrev KL:=λa=>Value.func (Go.Fn.func a) ⟨[]⟩ ⟨[]⟩
theorem Md(K:KV)(x y s:Int)(a:Li)(e:La)(d:Int)(b:Li)(c:La):jAp0 K x y s a e d b c=((0<=x/\x<j_ (blV a))/\nth (blV a) (G_ (o_ x))=some (Lt (blV a) (o_ x))/\(0<=y/\y<j_ (blV b))/\nth (blV b) (G_ (o_ y))=some (Lt (blV b) (o_ y))/\K (Value.bool (CF.f CF.c0 (az (blV a) (o_ x)) (az (blV b) (o_ y)))) (K_ (Kw (KJ [Vi x,Vi y] 78) (h_ s a e)) (m_ [KL 34] 43) (Sg (h_ d b c)) 19)):=by kernel_rfl
theorem EZ:type_of%(by have h:=@Md;revert h;delta h_ j_ m_ o_ G_ K_ Kw KJ KL Lt;exact id):=@Md
theorem Me(K:KV)(x y s:Int)(a:Li)(e:La)(d:Int)(b:Li)(c:La):jAp1 K x y s a e d b c=((0<=x/\x<j_ (blV a))/\nth (blV a) (G_ (o_ x))=some (Lt (blV a) (o_ x))/\(0<=y/\y<j_ (blV b))/\nth (blV b) (G_ (o_ y))=some (Lt (blV b) (o_ y))/\K (Value.bool (CF.f CF.c1 (az (blV a) (o_ x)) (az (blV b) (o_ y)))) (K_ (Kw (KJ [Vi x,Vi y] 78) (h_ s a e)) (m_ [KL 20] 43) (Sg (h_ d b c)) 19)):=by kernel_rfl
theorem EY:type_of%(by have h:=@Me;revert h;delta h_ j_ m_ o_ G_ K_ Kw KJ KL Lt;exact id):=@Me
theorem Mf(K:KV)(x y s:Int)(a:Li)(e:La)(d:Int)(b:Li)(c:La):jAp2 K x y s a e d b c=((0<=x/\x<j_ (blV a))/\nth (blV a) (G_ (o_ x))=some (Lt (blV a) (o_ x))/\(0<=y/\y<j_ (blV b))/\nth (blV b) (G_ (o_ y))=some (Lt (blV b) (o_ y))/\K (Value.bool (CF.f CF.c2 (az (blV a) (o_ x)) (az (blV b) (o_ y)))) (K_ (Kw (KJ [Vi x,Vi y] 78) (h_ s a e)) (m_ [KL 22] 43) (Sg (h_ d b c)) 19)):=by kernel_rfl
theorem EX:type_of%(by have h:=@Mf;revert h;delta h_ j_ m_ o_ G_ K_ Kw KJ KL Lt;exact id):=@Mf
theorem Mg(K:KV)(x y s:Int)(a:Li)(e:La)(d:Int)(b:Li)(c:La):jAp3 K x y s a e d b c=((0<=x/\x<j_ (blV a))/\nth (blV a) (G_ (o_ x))=some (Lt (blV a) (o_ x))/\(0<=y/\y<j_ (blV b))/\nth (blV b) (G_ (o_ y))=some (Lt (blV b) (o_ y))/\K (Value.bool (CF.f CF.c3 (az (blV a) (o_ x)) (az (blV b) (o_ y)))) (K_ (Kw (KJ [Vi x,Vi y] 78) (h_ s a e)) (m_ [KL 23] 43) (Sg (h_ d b c)) 19)):=by kernel_rfl
theorem EW:type_of%(by have h:=@Mg;revert h;delta h_ j_ m_ o_ G_ K_ Kw KJ KL Lt;exact id):=@Mg
theorem z8(x y:Bool):Walk env f34 [.bool x,.bool y] (.bool (CF.f .c0 x y)):=
 eP sV (d:=1) (HFb _) ((EA _ x y).mpr (Sp.intro (λh=>by subst h;rfl) (λh=>by subst h;rfl)))
theorem z7(x y:Bool):Walk env f20 [.bool x,.bool y] (.bool (CF.f .c1 x y)):=
 eP sV (d:=1) (HFb _) ((Ez _ x y).mpr (Sp.intro (λh=>by subst h;rfl) (λh=>by subst h;rfl)))
theorem z6(x y:Bool):Walk env f22 [.bool x,.bool y] (.bool (CF.f .c2 x y)):=
 eP sV (d:=1) (HFb _) ((Ey _ x y).mpr (Sp.intro (λh=>by subst h;rfl) (λh=>by subst h;rfl)))
theorem z5(x y:Bool):Walk env f23 [.bool x,.bool y] (.bool (CF.f .c3 x y)):=
 eP sV (d:=1) (HFb _) ((Ew _ x y).mpr (Sp.intro (λh=>by subst h;rfl) (λh=>by subst h;rfl)))
theorem sA(g:CF){f:FuncId}{fn:Func}(a:env.fn f=some fn)(b:∀ x y,Walk env fn [.bool x,.bool y] (.bool (g.f x y))):∀ args A p v A',bg (λ_=>none) (coX1 g) args A=some (p,v,A')->PH p->CallAt env f args A v A':=dh ai am a λargs v h c=>by unfold coX1 at h;grind [osI,HFb]
theorem sY:XAp.Ok:=⟨ai,aD,am,.cons (sA .c0 (fn:=f34) rfl z8) (.cons (sA .c1 (fn:=f20) rfl z7) (.cons (sA .c2 (fn:=f22) rfl z6) (.cons (sA .c3 (fn:=f23) rfl z5) .nil)))⟩
def accA(a:AU)(q:Int):Bool:=a.2.1.getD q.toNat false
def inA(a:AU)(q:Int):Prop:=0<=q/\q<a.2.2.length
def stP(a b:AU)(k:PR)(c:Nat):PR:=(stp a.2.2 k.1 c,stp b.2.2 k.2 c)
def acP2(g:CF)(a b:AU)(k:PR):Bool:=g.f (accA a k.1) (accA b k.2)
def stS(a:AU)(k:PR)(c:Nat):PR:=(stp a.2.2 k.1 c,0)
def acS(a:AU)(k:PR):Bool:=accA a k.1
theorem o6{a:AU}(h:OkA a){q:Int}(b:inA a q):(0<=q/\q<((blV a.2.1).length:Int))/\nth (blV a.2.1) q.toNat=some (.bool (az (blV a.2.1) q))/\az (blV a.2.1) q=accA a q:=by obtain⟨e,d⟩:=b;have c:=h.acc;grind [bw,aT,dj,accA,gD]
theorem CL{a b:AU}(h:OkA a)(n:OkA b)(l:inA a k.1/\inA b k.2){c:Nat}(m:c<256):WalkF env f69 [prV k,.int .i64 c,.pointer (some ⟨0,0,none⟩),.pointer (some ⟨1,0,none⟩)] (hA2 a.1 a.2.1 a.2.2 b.1 b.2.1 b.2.2) (prV (stP a b k c)) (hA2 a.1 a.2.1 a.2.2 b.1 b.2.1 b.2.2):=by
 obtain⟨r,q,F,p,o⟩:=jJ h l.1.1 l.1.2 m;obtain⟨w,v,G,u,t⟩:=jJ n l.2.1 l.2.2 m;obtain⟨s,g,i⟩:=a;obtain⟨j,e,f⟩:=b;obtain⟨x,y⟩:=k;obtain⟨⟨E,_⟩,D,_⟩:=l;dsimp only at*;have B:(↑x.toNat:Int)=x:=by omega
 have A:(↑y.toNat:Int)=y:=by omega
 have z:(↑(Int.toNat (c:Int)):Int)=c:=by omega
 refine aC XSp_ok (d:=1) (ns:=[]) (zs:=[]) (ws:=[]) ((jSp_nf _ x y c s g i j e f).mpr ?_);rw[B,A,z,D'];refine⟨r,q,⟨by omega,by omega⟩,p,w,v,⟨by omega,by omega⟩,u,?_⟩;rw[o,t];have:endF env (hA2 s g i j e f) [] [] [] (λv1 C=>v1=prV (stP (s,g,i) (j,e,f) (x,y) c)/\C=hA2 s g i j e f) (.agg ⟨[.int .i64 (stp i x c),.int .i64 (stp f y c)]⟩) ⟨(.node (.node (.node .leaf (some (.cells [.int .i64 (stp i x c),.int .i64 (stp f y c)] 78)) .leaf) (some (auC j e f)) .leaf) (some (auC s g i)) (.node .leaf (some (.cells [.int .i64 x,.int .i64 y] 78)) .leaf)),24⟩=(HF (dat 1 (blV g))/\HF (dat 1 (roV i))/\HF (dat 1 (blV e))/\HF (dat 1 (roV f))/\(Value.agg ⟨[.int .i64 (stp i x c),.int .i64 (stp f y c)]⟩=prV (stP (s,g,i) (j,e,f) (x,y) c)/\hA2 s g i j e f=hA2 s g i j e f)):=by kernel_rfl
 exact this.mpr ⟨.dat (ax _),.dat (aq _),.dat (ax _),.dat (aq _),rfl,rfl⟩
theorem CI{a:AU}(h:OkA a)(f:inA a k.1){c:Nat}(g:c<256):WalkF env f51 [prV k,.int .i64 c,.pointer (some ⟨0,0,none⟩)] (hA1 a.1 a.2.1 a.2.2) (prV (stS a k c)) (hA1 a.1 a.2.1 a.2.2):=by
 obtain⟨m,l,r,j,i⟩:=jJ h f.1 f.2 g;obtain⟨s,b,e⟩:=a;obtain⟨x,y⟩:=k;obtain⟨q,_⟩:=f;dsimp only at*;have o:(↑x.toNat:Int)=x:=by omega
 have n:(↑(Int.toNat (c:Int)):Int)=c:=by omega
 refine aC XSs_ok (d:=1) (ns:=[]) (zs:=[]) (ws:=[]) ((jSs_nf _ x y c s b e).mpr ?_);rw[o,n,D'];refine⟨m,l,⟨by omega,by omega⟩,j,?_⟩;rw[i];have:endF env (hA1 s b e) [] [] [] (λv1 p=>v1=prV (stS (s,b,e) (x,y) c)/\p=hA1 s b e) (.agg ⟨[.int .i64 (stp e x c),.int .i64 0]⟩) ⟨(.node (.node .leaf (some (.cells [.int .i64 x,.int .i64 y] 78)) .leaf) (some (auC s b e)) (.node .leaf (some (.cells [.int .i64 (stp e x c),.int .i64 0] 78)) .leaf)),3⟩=(HF (dat 1 (blV b))/\HF (dat 1 (roV e))/\(Value.agg ⟨[.int .i64 (stp e x c),.int .i64 0]⟩=prV (stS (s,b,e) (x,y) c)/\hA1 s b e=hA1 s b e)):=by kernel_rfl
 exact this.mpr ⟨.dat (ax _),.dat (aq _),rfl,rfl⟩
theorem GY{a:AU}(h:OkA a)(e:inA a k.1):WalkF env f49 [prV k,.pointer (some ⟨0,0,none⟩)] (hA1 a.1 a.2.1 a.2.2) (.bool (acS a k)) (hA1 a.1 a.2.1 a.2.2):=by
 obtain⟨i,g,f⟩:=o6 h e;obtain⟨s,b,c⟩:=a;obtain⟨x,y⟩:=k;obtain⟨m,_⟩:=e;dsimp only at*;have j:(↑x.toNat:Int)=x:=by omega
 refine aC XAs_ok (d:=1) (ns:=[]) (zs:=[]) (ws:=[]) ((jAs_nf _ x y s b c).mpr ?_);rw[j];refine⟨i,g,?_⟩;rw[f];have:endF env (hA1 s b c) [] [] [] (λv1 l=>v1=.bool (acS (s,b,c) (x,y))/\l=hA1 s b c) (.bool (accA (s,b,c) x)) ⟨(.node (.node .leaf (some (.cells [.int .i64 x,.int .i64 y] 78)) .leaf) (some (auC s b c)) .leaf),2⟩=(HF (dat 1 (blV b))/\HF (dat 1 (roV c))/\(Value.bool (accA (s,b,c) x)=.bool (acS (s,b,c) (x,y))/\hA1 s b c=hA1 s b c)):=by kernel_rfl
 exact this.mpr ⟨.dat (ax _),.dat (aq _),rfl,rfl⟩
theorem Hb(g:CF){a b:AU}(h:OkA a)(A:OkA b)(w:inA a k.1/\inA b k.2):WalkF env f68 [prV k,.pointer (some ⟨0,0,none⟩),.pointer (some ⟨1,0,none⟩),.pointer (some ⟨2,0,none⟩)] (hA3 g a.1 a.2.1 a.2.2 b.1 b.2.1 b.2.2) (.bool (acP2 g a b k)) (hA3 g a.1 a.2.1 a.2.2 b.1 b.2.1 b.2.2):=by
 obtain⟨p,o,n⟩:=o6 h w.1;obtain⟨t,r,q⟩:=o6 A w.2;obtain⟨s,i,j⟩:=a;obtain⟨l,c,e⟩:=b;obtain⟨x,y⟩:=k;obtain⟨⟨C,_⟩,B,_⟩:=w;dsimp only at*;have v:(↑x.toNat:Int)=x:=by omega
 have u:(↑y.toNat:Int)=y:=by omega
 have m:endF env (hA3 g s i j l c e) [] [] [] (λv1 z=>v1=.bool (acP2 g (s,i,j) (l,c,e) (x,y))/\z=hA3 g s i j l c e) (.bool (g.f (accA (s,i,j) x) (accA (l,c,e) y))) ⟨(.node (.node (.node .leaf (some (.cells [.int .i64 x,.int .i64 y] 78)) .leaf) (some (auC s i j)) .leaf) (some (fnO g)) (.node .leaf (some (auC l c e)) .leaf)),19⟩:=by
  have:endF env (hA3 g s i j l c e) [] [] [] (λv1 z=>v1=.bool (acP2 g (s,i,j) (l,c,e) (x,y))/\z=hA3 g s i j l c e) (.bool (g.f (accA (s,i,j) x) (accA (l,c,e) y))) ⟨(.node (.node (.node .leaf (some (.cells [.int .i64 x,.int .i64 y] 78)) .leaf) (some (auC s i j)) .leaf) (some (fnO g)) (.node .leaf (some (auC l c e)) .leaf)),19⟩=(HF (dat 1 (blV i))/\HF (dat 1 (roV j))/\HF (dat 1 (blV c))/\HF (dat 1 (roV e))/\(Value.bool (g.f (accA (s,i,j) x) (accA (l,c,e) y))=.bool (acP2 g (s,i,j) (l,c,e) (x,y))/\hA3 g s i j l c e=hA3 g s i j l c e)):=by kernel_rfl
  exact this.mpr ⟨.dat (ax _),.dat (aq _),.dat (ax _),.dat (aq _),rfl,rfl⟩
 cases g with
 |c0=>refine aC sY (d:=1) (ns:=[]) (zs:=[]) (ws:=[]) ((EZ _ x y s i j l c e).mpr ?_);rw[v,u];refine⟨p,o,t,r,?_⟩;rw[n,q];exact m
 |c1=>refine aC sY (d:=1) (ns:=[]) (zs:=[]) (ws:=[]) ((EY _ x y s i j l c e).mpr ?_);rw[v,u];refine⟨p,o,t,r,?_⟩;rw[n,q];exact m
 |c2=>refine aC sY (d:=1) (ns:=[]) (zs:=[]) (ws:=[]) ((EX _ x y s i j l c e).mpr ?_);rw[v,u];refine⟨p,o,t,r,?_⟩;rw[n,q];exact m
 |c3=>refine aC sY (d:=1) (ns:=[]) (zs:=[]) (ws:=[]) ((EW _ x y s i j l c e).mpr ?_);rw[v,u];refine⟨p,o,t,r,?_⟩;rw[n,q];exact m
def spSp:Lh->List AObj->Option (Ll×Value×List AObj)
 | [.agg ⟨[.int .i64 x,.int .i64 y]⟩,.int .i64 c,.pointer (some ⟨B,o,none⟩),.pointer (some ⟨B2,o2,none⟩)],[u,v]=>(match auO u,auO v with
   |some a,some b=>bif (Nat.beq B 0&&Nat.beq o 0)&&(Nat.beq B2 1&&Nat.beq o2 0)then some (some (okO u a/\okO v b/\(inA a x/\inA b y)/\0<=c/\c<256),prV (stP a b (x,y) c.toNat),[u,v])else none
   |_,_=>none)
 |_,_=>none
def spSs:Lh->List AObj->Option (Ll×Value×List AObj)
 | [.agg ⟨[.int .i64 x,.int .i64 y]⟩,.int .i64 c,.pointer (some ⟨B,o,none⟩)],[u]=>(match auO u with
   |some a=>bif Nat.beq B 0&&Nat.beq o 0 then some (some (okO u a/\inA a x/\0<=c/\c<256),prV (stS a (x,y) c.toNat),[u])else none
   |_=>none)
 |_,_=>none
def spAs:Lh->List AObj->Option (Ll×Value×List AObj)
 | [.agg ⟨[.int .i64 x,.int .i64 y]⟩,.pointer (some ⟨B,o,none⟩)],[u]=>(match auO u with
   |some a=>bif Nat.beq B 0&&Nat.beq o 0 then some (some (okO u a/\inA a x),.bool (acS a (x,y)),[u])else none
   |_=>none)
 |_,_=>none
def spAp(g:CF):Lh->List AObj->Option (Ll×Value×List AObj)
 | [.agg ⟨[.int .i64 x,.int .i64 y]⟩,.pointer (some ⟨B0,o0,none⟩),.pointer (some ⟨B,o,none⟩),.pointer (some ⟨B2,o2,none⟩)],[f,u,v]=>(match auO u,auO v with
   |some a,some b=>bif (Nat.beq B0 0&&Nat.beq o0 0)&&((Nat.beq B 1&&Nat.beq o 0)&&(Nat.beq B2 2&&Nat.beq o2 0))then some (some (f=fnO g/\okO u a/\okO v b/\inA a x/\inA b y),.bool (acP2 g a b (x,y)),[f,u,v])else none
   |_,_=>none)
 |_,_=>none
theorem Ft(g:CF)(a b:AU):aQ [fnO g,auCo a,auCo b]=hA3 g a.1 a.2.1 a.2.2 b.1 b.2.1 b.2.2:=by kernel_rfl
theorem sp_tab:∀ args A p v A',frmR noAr spSp args A=some (p,v,A')->PH p->CallAt env 69 args A v A':=aS ai (fn:=f69) rfl λargs f p v e h i=>by unfold spSp at h;split at h;rename_i x y c B o s g u w;split at h;rename_i a b t j;cases d:(Nat.beq B 0&&Nat.beq o 0)&&(Nat.beq s 1&&Nat.beq g 0);rw[d]at h;cases h;rw[d]at h;simp only[C',osI,Hs]at h;obtain⟨rfl,rfl,rfl⟩:=h;simp only[f',Hy]at d;obtain⟨⟨rfl,rfl⟩,rfl,rfl⟩:=d;obtain⟨⟨rfl,r⟩,⟨rfl,q⟩,l,m,z⟩:okO u a/\okO w b/\(inA a x/\inA b y)/\0<=c/\c<256:=i;obtain⟨n,rfl⟩:=Iq m;rw[wF];exact CL r q (k:=(x,y)) l (by omega);cases h;cases h
theorem ss_tab:∀ args A p v A',frmR noAr spSs args A=some (p,v,A')->PH p->CallAt env 51 args A v A':=aS ai (fn:=f51) rfl λargs e p v d h f=>by unfold spSs at h;split at h;rename_i x y c B o u;split at h;rename_i a l;cases b:Nat.beq B 0&&Nat.beq o 0;rw[b]at h;cases h;rw[b]at h;simp only[C',osI,Hs]at h;obtain⟨rfl,rfl,rfl⟩:=h;simp only[f',Hy]at b;obtain⟨rfl,rfl⟩:=b;obtain⟨⟨rfl,j⟩,g,i,m⟩:okO u a/\inA a x/\0<=c/\c<256:=f;obtain⟨n,rfl⟩:=Iq i;rw[pT];exact CI j (k:=(x,y)) g (by omega);cases h;cases h
theorem as_tab:∀ args A p v A',frmR noAr spAs args A=some (p,v,A')->PH p->CallAt env 49 args A v A':=aS ai (fn:=f49) rfl λargs d p v c h e=>by unfold spAs at h;split at h;rename_i x y B o u;split at h;rename_i a i;cases b:Nat.beq B 0&&Nat.beq o 0;rw[b]at h;cases h;rw[b]at h;simp only[C',osI,Hs]at h;obtain⟨rfl,rfl,rfl⟩:=h;simp only[f',Hy]at b;obtain⟨rfl,rfl⟩:=b;obtain⟨⟨rfl,g⟩,f⟩:okO u a/\inA a x:=e;rw[pT];exact GY g (k:=(x,y)) f;cases h;cases h
theorem ap_tab{g:CF}:∀ args A p v A',frmR noAr (spAp g) args A=some (p,v,A')->PH p->CallAt env 68 args A v A':=aS ai (fn:=f68) rfl λargs e p v d h l=>by unfold spAp at h;split at h;rename_i x y t j B o s i f u w;split at h;rename_i a b z m;cases c:(Nat.beq t 0&&Nat.beq j 0)&&((Nat.beq B 1&&Nat.beq o 0)&&(Nat.beq s 2&&Nat.beq i 0));rw[c]at h;cases h;rw[c]at h;simp only[C',osI,Hs]at h;obtain⟨rfl,rfl,rfl⟩:=h;simp only[f',Hy]at c;obtain⟨⟨rfl,rfl⟩,⟨rfl,rfl⟩,rfl,rfl⟩:=c;obtain⟨rfl,⟨rfl,r⟩,⟨rfl,q⟩,n⟩:f=fnO g/\okO u a/\okO w b/\inA a x/\inA b y:=l;rw[Ft];exact Hb g r q (k:=(x,y)) n;cases h;cases h
def vP:Value->PR
 | .agg ⟨[.int _ a,.int _ b]⟩=>(a,b)
 |_=>(0,0)
def enP(m:List (PR×Int)):Ents:=ents prV (Value.int .i64) m
def mgP(a:Ents)(k:Value):Int:=(aget (inv vP deI a) (vP k)).getD 0
def mhP(a:Ents)(k:Value):Bool:=(aget (inv vP deI a) (vP k)).isSome
def msP(a:Ents)(k v:Value):Ents:=enP (aset (inv vP deI a) (vP k) (deI v))
def mnP(a:Ents)(k v:Value):Nat:=(aset (inv vP deI a) (vP k) (deI v)).length
theorem and2(a b:PR):(decide (a.1=b.1)&&(decide (a.2=b.2)&&true))=decide (a=b):=by grind
theorem eqkP(a b:PR):oD env 78 (prV a) (prV b)=some (decide (a.1=b.1)&&(decide (a.2=b.2)&&true)):=by kernel_rfl
theorem koP:KeyOk env 121 78 3 prV (.int .i64 0):=⟨by kernel_rfl,λ_=>rfl,λc k=>by cases c<;>kernel_rfl,⟨_,rfl,.inr ⟨λ_ _=>rfl,λa b=>(eqkP a b).trans (Il some (and2 a b))⟩⟩,λk=>by simp[prV,Instr.sameBits],⟨_,rfl,rfl,rfl⟩⟩
theorem invP(m:List (PR×Int)):inv vP deI (enP m)=m:=mC (λ_=>rfl) (λ_=>rfl) m
theorem DG(m:List (PR×Int))(k:PR):bY env 121 (enP m) (prV k)=some (.int .i64 (mgP (enP m) (prV k)),mhP (enP m) (prV k)):=by refine(ka koP (Value.int .i64) k m).trans ?_;unfold mgP mhP;rw[invP];show _=some (Value.int .i64 ((aget m k).getD 0),(aget m k).isSome);cases aget m k<;>rfl
theorem updP(m:List (PR×Int))(k:PR)(v:Int):aR env 121 (enP m) m.length (prV k) (.int .i64 v)=some (enP (aset m k v),(aset m k v).length):=lT koP (Value.int .i64) k v m
theorem eT(m:List (PR×Int)):HF (.agg ⟨(enP m).map λx=>x.2.1⟩):=qy (λv=>.scal rfl) m
def prs(l:List PR):Lh:=l.map prV
def prAt(a:Lh)(i:Int):PR:=match nth a i.toNat with|some v=>vP v|none=>(0,0)
def elEx:El:={El.of (λ_ t els i=>bif Nat.beq t 31 then some (.agg ⟨[.int .i64 (prAt els i).1,.int .i64 (prAt els i).2]⟩)else some (.int .i64 (aa els i)))with app:=true,gm:=λ_=>true,ml:=λ_ es k=>some (.int .i64 (mgP es k),mhP es k),mu:=λ_ es _ k v=>some (msP es k v,mnP es k v)}
def nsEx:List (NPos×TypeId×Nat):=[(.slot 9,78,2),(.cell 0 257,4,1),(.cell 0 258,49,1)]
def XEx:SX:=⟨env,[(51,frmR noAr spSs),(49,frmR noAr spAs)],elEx,λk=>bif Nat.beq k 4 then .autoN nsEx [.cell 0 258] [] [0,2,3,8,9,10]else .autoN [] [] [] [0,2,3,8,9,10,11,12,42,43,44]⟩
theorem yh:XEx.Ok:=⟨ai,aD,am,.cons ss_tab (.cons as_tab .nil)⟩
def XEp(g:CF):SX:=⟨env,[(69,frmR noAr spSp),(68,frmR noAr (spAp g))],elEx,λk=>bif Nat.beq k 4 then .autoN nsEx [.cell 0 258] [] [0,2,3,8,9,10]else .autoN [] [] [] [0,2,3,8,9,10,11,12,42,43,44]⟩
theorem yi(g:CF):(XEp g).Ok:=⟨ai,aD,am,.cons sp_tab (.cons ap_tab .nil)⟩
def we(K:KV):KX:=finK XEx.E (f50.results).toList K
def wg(g:CF)(K:KV):KX:=finK (XEp g).E (f50.results).toList K
def groP(B n:Nat):Value:=.slice (some ⟨B,0,none⟩) n (unk+3+2)
def cAs(B:Nat):Value:=.func (.func 49) ⟨[]⟩ ⟨[.pointer (some ⟨B,0,none⟩)]⟩
def cSs(B:Nat):Value:=.func (.func 51) ⟨[]⟩ ⟨[.pointer (some ⟨B,0,none⟩)]⟩
def cAp(B0 B a:Nat):Value:=.func (.func 68) ⟨[]⟩ ⟨[.pointer (some ⟨B0,0,none⟩),.pointer (some ⟨B,0,none⟩),.pointer (some ⟨a,0,none⟩)]⟩
def cSp(B a:Nat):Value:=.func (.func 69) ⟨[]⟩ ⟨[.pointer (some ⟨B,0,none⟩),.pointer (some ⟨a,0,none⟩)]⟩
def hEs0(C F:Le)(s:Int)(b:Li)(a:La):AH:=⟨(Nd (Nd Lf (some (auC s b a)) Lf) (some (dfO C [groS 2 F.length,nilS,nilS])) (Nd Lf (some (.gro (inV F) [] 3)) Lf)),3⟩
def hEsL(C F:Le)(a:List PR)(c:Li)(b:La)(s:Int)(d:Li)(e:La):AH:=⟨(Nd (Nd (Nd Lf (some (.map (enP (mkM a)) a.length)) Lf) (some (auC s d e)) (Nd Lf (some (.gro (blV c) [] 4)) Lf)) (some (dfO C [groS 2 F.length,groS 5 c.length,groS 6 b.length])) (Nd (Nd Lf (some (.gro (prs a) [] 78)) Lf) (some (.gro (inV F) [] 3)) (Nd Lf (some (.gro (roV b) [] 49)) Lf))),7⟩
def hEsI(C F:Le)(a:List PR)(c:Li)(b:La)(k:PR)(r:Le)(s:Int)(d:Li)(e:La):AH:=⟨(Nd (Nd (Nd (Nd Lf (some (.gro (blV c) [] 4)) Lf) (some (.map (enP (mkM a)) a.length)) Lf) (some (auC s d e)) (Nd Lf (some (.cells [.int .i64 k.1,.int .i64 k.2] 78)) Lf)) (some (dfO C [groS 2 F.length,groS 7 c.length,groS 8 b.length])) (Nd (Nd (Nd Lf (some (.gro (roV b) [] 49)) Lf) (some (.gro (prs a) [] 78)) Lf) (some (.gro (inV F) [] 3)) (Nd Lf (some (.gro (inV r) [] 3)) Lf))),9⟩
def FN(n i:Nat):T Value:=(Nd (Nd (Nd Lf (some (cSs 1)) Lf) none (Nd (Nd Lf (some (groP 4 n)) Lf) none Lf)) (some (.pointer (some ⟨0,0,none⟩))) (Nd (Nd (Nd Lf (some (.map (some 3))) Lf) none Lf) (some (cAs 1)) (Nd (Nd Lf (some (.int .i64 i)) Lf) none Lf)))
def FO(n a b i c:Nat):T Value:=(Nd (Nd (Nd Lf (some (cSs 1)) (Nd Lf (some (.pointer (some ⟨5,0,none⟩))) (Nd (Nd Lf (some (.int .i64 a)) Lf) none Lf))) none (Nd (Nd Lf (some (groP 4 n)) Lf) none Lf)) (some (.pointer (some ⟨0,0,none⟩))) (Nd (Nd (Nd Lf (some (.map (some 3))) Lf) none (Nd Lf (some (groS 6 b)) (Nd (Nd Lf (some (.int .i64 c)) Lf) none Lf))) (some (cAs 1)) (Nd (Nd Lf (some (.int .i64 i)) (Nd (Nd Lf (some (groS 2 a)) Lf) none Lf)) none Lf)))
def jEs(K:KV)(C F:Le)(a:PR)(s:Int)(c:Li)(b:La):Prop:=aN XEx 1 f50 [.pointer (some ⟨0,0,none⟩),.agg ⟨[.int .i64 a.1,.int .i64 a.2]⟩,cAs 1,cSs 1] (hEs0 C F s c b) K
def jEsL(K:KV)(d:KF)(e h C F:Le)(b:List PR)(g:Li)(f:La)(s:Int)(a:Li)(c:La)(i:Nat):Prop:=aI XEx 1 (Func.ntmps f50) (hEs0 e h s a c) (ay f50) [1,1,1,1,0] (we K) nsEx [.cell 0 258] [] [0,2,3,8,9,10] d (FN b.length i) (hEsL C F b g f s a c)
def kEs2(K:KV)(e:KF)(b d:Le)(s:Int)(a:Li)(c:La):KX:=stepF XEx 1 (Func.ntmps f50) (hEs0 b d s a c) (ay f50) [1,1,1,1,0] (we K) nsEx [.cell 0 258] [] [0,2,3,8,9,10] e
def jEsI(K:KV)(l g:KF)(e f C F:Le)(d:List PR)(j:Li)(h:La)(k:PR)(r:Le)(s:Int)(a:Li)(b:La)(i c:Nat):Prop:=aI XEx 1 (Func.ntmps f50) (hEs0 e f s a b) (an (subC [1,1,1,1,0] (ay f50))) [1,0,0,1,1,0,1,0] (kEs2 K l e f s a b) [] [] [] [0,2,3,8,9,10,11,12,42,43,44] g (FO d.length F.length r.length i c) (hEsI C F d j h k r s a b)
def hEp0(g:CF)(C F:Le)(s:Int)(c:Li)(e:La)(b:Int)(d:Li)(a:La):AH:=⟨(Nd (Nd (Nd Lf (some (auC b d a)) Lf) (some (fnO g)) Lf) (some (dfO C [groS 4 F.length,nilS,nilS])) (Nd (Nd Lf (some (.gro (inV F) [] 3)) Lf) (some (auC s c e)) Lf)),5⟩
def hEpL(g:CF)(C F:Le)(a:List PR)(c:Li)(b:La)(s:Int)(f:Li)(i:La)(e:Int)(h:Li)(d:La):AH:=⟨(Nd (Nd (Nd (Nd Lf (some (.gro (blV c) [] 4)) Lf) (some (auC e h d)) Lf) (some (fnO g)) (Nd Lf (some (.map (enP (mkM a)) a.length)) Lf)) (some (dfO C [groS 4 F.length,groS 7 c.length,groS 8 b.length])) (Nd (Nd (Nd Lf (some (.gro (roV b) [] 49)) Lf) (some (.gro (inV F) [] 3)) Lf) (some (auC s f i)) (Nd Lf (some (.gro (prs a) [] 78)) Lf))),9⟩
def hEpI(g:CF)(C F:Le)(a:List PR)(c:Li)(b:La)(k:PR)(r:Le)(s:Int)(f:Li)(i:La)(e:Int)(h:Li)(d:La):AH:=⟨(Nd (Nd (Nd (Nd Lf (some (.cells [.int .i64 k.1,.int .i64 k.2] 78)) Lf) (some (auC e h d)) Lf) (some (fnO g)) (Nd (Nd Lf (some (.gro (blV c) [] 4)) Lf) (some (.map (enP (mkM a)) a.length)) Lf)) (some (dfO C [groS 4 F.length,groS 9 c.length,groS 10 b.length])) (Nd (Nd (Nd Lf (some (.gro (inV r) [] 3)) Lf) (some (.gro (inV F) [] 3)) Lf) (some (auC s f i)) (Nd (Nd Lf (some (.gro (roV b) [] 49)) Lf) (some (.gro (prs a) [] 78)) Lf))),11⟩
def FS(n i:Nat):T Value:=(Nd (Nd (Nd Lf (some (cSp 2 3)) Lf) none (Nd (Nd Lf (some (groP 6 n)) Lf) none Lf)) (some (.pointer (some ⟨0,0,none⟩))) (Nd (Nd (Nd Lf (some (.map (some 5))) Lf) none Lf) (some (cAp 1 2 3)) (Nd (Nd Lf (some (.int .i64 i)) Lf) none Lf)))
def FV(n a b i c:Nat):T Value:=(Nd (Nd (Nd Lf (some (cSp 2 3)) (Nd Lf (some (.pointer (some ⟨7,0,none⟩))) (Nd (Nd Lf (some (.int .i64 a)) Lf) none Lf))) none (Nd (Nd Lf (some (groP 6 n)) Lf) none Lf)) (some (.pointer (some ⟨0,0,none⟩))) (Nd (Nd (Nd Lf (some (.map (some 5))) Lf) none (Nd Lf (some (groS 8 b)) (Nd (Nd Lf (some (.int .i64 c)) Lf) none Lf))) (some (cAp 1 2 3)) (Nd (Nd Lf (some (.int .i64 i)) (Nd (Nd Lf (some (groS 4 a)) Lf) none Lf)) none Lf)))
def jEp(g:CF)(K:KV)(C F:Le)(a:PR)(s:Int)(d:Li)(f:La)(c:Int)(e:Li)(b:La):Prop:=aN (XEp g) 1 f50 [.pointer (some ⟨0,0,none⟩),.agg ⟨[.int .i64 a.1,.int .i64 a.2]⟩,cAp 1 2 3,cSp 2 3] (hEp0 g C F s d f c e b) K
def jEpL(g:CF)(K:KV)(h:KF)(j m C F:Le)(d:List PR)(l:Li)(k:La)(s:Int)(c:Li)(f:La)(b:Int)(e:Li)(a:La)(i:Nat):Prop:=aI (XEp g) 1 (Func.ntmps f50) (hEp0 g j m s c f b e a) (ay f50) [1,1,1,1,0] (wg g K) nsEx [.cell 0 258] [] [0,2,3,8,9,10] h (FS d.length i) (hEpL g C F d l k s c f b e a)
def kEp2(g:CF)(K:KV)(i:KF)(d h:Le)(s:Int)(c:Li)(f:La)(b:Int)(e:Li)(a:La):KX:=stepF (XEp g) 1 (Func.ntmps f50) (hEp0 g d h s c f b e a) (ay f50) [1,1,1,1,0] (wg g K) nsEx [.cell 0 258] [] [0,2,3,8,9,10] i
def jEpI(g:CF)(K:KV)(p m:KF)(j l C F:Le)(h:List PR)(o:Li)(n:La)(k:PR)(r:Le)(s:Int)(d:Li)(f:La)(b:Int)(e:Li)(a:La)(i c:Nat):Prop:=aI (XEp g) 1 (Func.ntmps f50) (hEp0 g j l s d f b e a) (an (subC [1,1,1,1,0] (ay f50))) [1,0,0,1,1,0,1,0] (kEp2 g K p j l s d f b e a) [] [] [] [0,2,3,8,9,10,11,12,42,43,44] m (FV h.length F.length r.length i c) (hEpI g C F h o n k r s d f b e a)
end
end Go.T9
namespace Go.T9
theorem _root_.Go.IA:type_of% @List.mem_iff_getElem:=@List.mem_iff_getElem
theorem _root_.Go.Ib:type_of% @List.getElem?_append_left:=@List.getElem?_append_left
abbrev _root_.Go.Km:=@List.Pairwise.map
abbrev _root_.Go.Ka:=@List.Pairwise.and_mem
section
variable {S:Type}[DecidableEq S]
variable {ks:List S}{N i:Nat}{st:S}{sc:S->List S}{P:S->Prop}
theorem fC(s:S):∀ (l q:List S),addS q (l++[s])=if s∈addS q l then addS q l else addS q l++[s]
 | [],q=>by grind [addS]
 |x::l,q=>by simp only[IY,addS];split<;>exact fC s l _
def nums(a l:List S):Le:=l.map λs=>((idN a s:Nat):Int)
theorem mo{l:List S}(r:List S)(h:∀ s∈l,s∈ks):nums (ks++r) l=nums ks l:=by grind [nums,HQ,pQ]
theorem b6(ks l:List S):(nums ks l).length=l.length:=Hp _
def bc(b:S->List S)(a:List S)(i:Nat):La:=(a.take i).map λk=>nums a (b k)
structure EI (sc:S->List S) (P:S->Prop) (N:Nat) (st:S) (ks:List S) (i:Nat):Prop where
 nd:ks.Nodup
 inp:∀ k∈ks,P k
 le:i<=ks.length
 hd:ks[0]? =some st
 cl:∀ j k,j<i->ks[j]? =some k->∀ s∈sc k,s∈ks
 fin:exS sc (N-i) ks i=exS sc N [st] 0
theorem EI.init(h:P st):EI sc P N st [st] 0:=
 ⟨by simp,λk a=>by simp at a;subst a;exact h,by simp,rfl,λj k b=>by omega,rfl⟩
theorem u3{r:List S}(c:i<=ks.length)(h:∀ j k,j<i->ks[j]? =some k->∀ s∈sc k,s∈ks):bc sc (ks++r) i=bc sc ks i:=by unfold bc;rw[IM c];refine HQ λk a=>?_;obtain⟨j,b,e⟩:=IA.1 a;rw[Ic]at b;refine mo r (h j k (by omega) ?_);grind
theorem EI.step(h:EI sc P N st ks i)(l:∀ k,P k->∀ s∈sc k,P s){k:S}(d:ks[i]? =some k)(u:i<N):
 EI sc P N st (addS ks (sc k)) (i+1)/\bc sc (addS ks (sc k)) (i+1)=bc sc ks i++[nums (addS ks (sc k)) (sc k)]:=by
 have t:i<ks.length:=(Hx.1 d).1;have n:ks[i]=k:=(Hx.1 d).2;obtain⟨r,c⟩:=cN (sc k) ks;have e:∀ j b,j<i+1->(addS ks (sc k))[j]? =some b->∀ s∈sc b,s∈addS ks (sc k):=λj b p a s g=>by
  rw[c,Ib (by omega)]at a;rcases IP j i with q|q;exact sT (h.cl j b q a s g);obtain rfl:j=i:=by omega
  grind [eN]
 refine⟨⟨cy h.nd,λx f=>?_,?_,?_,e,?_⟩,?_⟩;rcases du f with q|q;exact h.inp x q;exact l k (h.inp k (HR d)) x q;grind;rw[c,Ib (by omega)];exact h.hd;rw[<-h.fin];obtain⟨m,o⟩:∃ m,N-i=m+1:=⟨N-i-1,by omega⟩;grind [exS,addS];have v:bc sc (addS ks (sc k)) i=bc sc ks i:=by rw[c];exact u3 h.le h.cl
 grind [addS,E',Ib,Hx,bc,HC]
theorem EI.done(h:EI sc P N st ks i)(c:ks.length<=i)(d:ks.length<N):i=ks.length/\ks=exS sc N [st] 0:=by
 have a:=h.le;have e:i=ks.length:=by omega
 refine⟨e,?_⟩;rw[<-h.fin];obtain⟨m,b⟩:∃ m,N-i=m+1:=⟨N-i-1,by omega⟩;grind [exS,addS,Jv]
end
theorem q9(l:List (Int×Int))(a:l.Nodup)(h:∀ k∈l,(0<=k.1/\k.1<300)/\0<=k.2/\k.2<300):l.length<=90000:=by have b:=cB 90000 (l.map λk=>k.1.toNat*300+k.2.toNat) ?_ λx c=>?_;simpa using b;refine Km _ ?_ (Ka.1 a);grind;grind
end Go.T9
set_option maxHeartbeats 1000000
namespace Go.T9
open Go Go.AM Go.MK Go.Proofs.Tryz
noncomputable section
theorem _root_.Go.Js:type_of% @List.map_replicate:=@List.map_replicate
abbrev t_:=λa b c d=>Value.slice (some ⟨a,b,none⟩) c d
variable {b:AU}{F:Lg}{ks l:List PR}{c n:Nat}
theorem Mh(K:KV)(C:Le)(F:Le)(a:PR)(s:Int)(c:Li)(b:La):jEs K C F a s c b=(aR (SX.E XEx) 121 [] 0 (KZ (Prod.fst a) (Prod.snd a)) (Vi 0)=some ([(KZ (Prod.fst a) (Prod.snd a),Vi 0,0)],1)/\F_ C/\U' c/\LQ b/\F_ F/\Kt [Vi 0]/\Kt [KZ (Prod.fst a) (Prod.snd a)]/\LC/\LC/\LAtZ XEx 1 f50.ntmps (hEs0 C F s c b) (ay f50) [1,1,1,1,0] (finK (SX.E XEx) f50.results.toList K) (Ns (No (Sg (q_ 51 [] [c_ 1 0])) (H_ (t_ 4 0 1 18446744073709551621))) i_ (Ns (H_ (D_ 3)) (q_ 49 [] [c_ 1 0]) (H_ (Vi 0)))) (K_ (Ns (Sg (Kr [(KZ (Prod.fst a) (Prod.snd a),Vi 0,0)] 1)) (h_ s c b) (Sg (AObj.gro [] [] 4))) (LN (inV C) [g_ 2 0 F.length,KN 5 0,KN 6 0]) (Ns (Lu [KZ (Prod.fst a) (Prod.snd a)] 78) (f_ F) (Sg (AObj.gro [] [] 49))) 7)):=by kernel_rfl
theorem jEs_nf:type_of%(by have h:=@Mh;revert h;delta b_ c_ d_ f_ g_ h_ i_ l_ q_ t_ D_ F_ H_ K_ S_ W_ U' Kr Kt KN KZ Lu LC LN LQ;exact id):=@Mh
abbrev O_:=λa=>l_ (roV a) 49
abbrev Z_:=λa=>l_ (blV a) 4
abbrev LD:=λa=>enP (mkM a)
abbrev OA(a:Le):Prop:=(0<=I_ a.length/\I_ a.length<=I_ a.length/\I_ a.length<=281474976710656/\8*List.length a<=281474976710656)
abbrev ON(a:Nat)(b:List PR):Prop:=(0<=(a:Int)/\(a:Int)<I_ b.length)
theorem Mi(K:KV)(h:KF)(f:Le)(g:Le)(C:Le)(F:Le)(a:List PR)(d:Li)(c:La)(s:Int)(b:Li)(e:La)(i:Nat):jEsL K h f g C F a d c s b e i=(Sp (decide ((i:Int)<I_ a.length)) (ON i a/\nth (prs a) i=some (KZ (Prod.fst (prAt (prs a) i)) (Prod.snd (prAt (prs a) i)))/\OA F/\F_ C/\U' b/\LQ e/\F_ F/\Kt (mvl (LD a))/\Kt (prs a)/\Kt (List.replicate F.length (Vi 0))/\Kt (blV d)/\Kt (roV c)/\LAtZ XEx 1 f50.ntmps (hEs0 f g s b e) (an (subC [1,1,1,1,0] (ay f50))) [1,0,0,1,1,0,1,0] (stepF XEx 1 f50.ntmps (hEs0 f g s b e) (ay f50) [1,1,1,1,0] (we K) nsEx [NPos.cell 0 258] [] [0,2,3,8,9,10] h) (Ns (No (Ns Lf (q_ 51 [] [c_ 1 0]) (Ns Lf (c_ 5 0) (H_ (Lr F.length)))) (H_ (t_ 4 0 a.length 18446744073709551621))) i_ (Ns (No (Sg (D_ 3)) (Ns Lf (g_ 6 0 F.length) (H_ (Vi 0)))) (q_ 49 [] [c_ 1 0]) (No (Ns Lf (Vi i) (H_ (g_ 2 0 F.length))) Lf))) (K_ (Ns (Kw (Sg (Z_ d)) (Kr (LD a) a.length)) (h_ s b e) (KJ [Vi (Prod.fst (prAt (prs a) i)),Vi (Prod.snd (prAt (prs a) i))] 78)) (LN (inV C) [g_ 2 0 F.length,g_ 7 0 d.length,g_ 8 0 c.length]) (Ns (Kw (Sg (O_ c)) (l_ (prs a) 78)) (f_ F) (Lu (List.replicate F.length (Vi 0)) 3)) 9)) (K LF (K_ (Ns (Sg (Kr (LD a) a.length)) (h_ s b e) (Sg (Z_ d))) (LN (inV C) [g_ 2 0 F.length,g_ 5 0 d.length,g_ 6 0 c.length]) (Ns (Lu (prs a) 78) (f_ F) (Sg (O_ c))) 7))):=by kernel_rfl
theorem Er:type_of%(by have h:=@Mi;revert h;delta ON OA b_ c_ d_ f_ g_ h_ i_ l_ m_ q_ t_ D_ F_ H_ I_ K_ O_ S_ Z_ U' Kr Kt Kw KJ KZ Lr Lu LD LF LN LQ;exact id):=@Mi
abbrev Oa(a:Nat)(b:Le):Prop:=(0<=(a:Int)/\(a:Int)<I_ b.length)
abbrev Om(a:Le)(b:La):Prop:=(List.all [g_ 6 0 a.length] cellv=true/\List.length b+0=List.length (roV b)/\List.length b+(1:Nat)<=(70368744177664:Nat)/\(List.length b+1)*(24:Nat)<=(140737488355328:Nat))
theorem Mj(K:KV)(h:KF)(g:KF)(j:Le)(l:Le)(C:Le)(F:Le)(a:List PR)(e:Li)(f:La)(k:PR)(r:Le)(s:Int)(d:Li)(b:La)(i c:Nat):jEsI K h g j l C F a e f k r s d b i c=(Sp (decide ((c:Int)<I_ F.length)) (Oa c F/\nth (inV F) c=some (Vi (P_ F c))/\HFs [P' d,S_ b,P' d,S_ b] (LK s d b/\inA (s,v_ d,n_ b) (Prod.fst k)/\0<=aa (inV F) c/\aa (inV F) (c:Int)<256)/\bY (SX.E XEx) 121 (LD a) (KZ (stp (n_ b) (Prod.fst k) (G_ (P_ F c))) 0)=some (Vi (mgP (LD a) (KZ (stp (n_ b) (Prod.fst k) (G_ (P_ F c))) 0)),mhP (LD a) (KZ (stp (n_ b) (Prod.fst k) (G_ (P_ F c))) 0))/\Sp (! mhP (LD a) (KZ (stp (n_ b) (Prod.fst k) (G_ (P_ F c))) 0)) (aR (SX.E XEx) 121 (LD a) a.length (KZ (stp (n_ b) (Prod.fst k) (G_ (P_ F c))) 0) (Lr a.length)=some (msP (LD a) (KZ (stp (n_ b) (Prod.fst k) (G_ (P_ F c))) 0) (Lr a.length),mnP (LD a) (KZ (stp (n_ b) (Prod.fst k) (G_ (P_ F c))) 0) (Lr a.length))/\(List.all [Vi (stp (n_ b) (Prod.fst k) (G_ (P_ F c))),Vi 0] cellv=true/\List.length a+0=List.length (prs a)/\List.length a+(1:Nat)<=(70368744177664:Nat)/\(List.length a+1)*(16:Nat)<=(140737488355328:Nat))/\Oa c r/\c<List.length (inV r)/\F_ C/\U' d/\LQ b/\F_ F/\Kt (mvl (msP (LD a) (KZ (stp (n_ b) (Prod.fst k) (G_ (P_ F c))) 0) (Lr a.length)))/\Kt (prs a++[KZ (stp (n_ b) (Prod.fst k) (G_ (P_ F c))) 0])/\Kt (List.set (inV r) c (Lr a.length))/\Kt (blV e)/\Kt (roV f)/\g (Ns (No (Ns Lf (q_ 51 [] [c_ 1 0]) (Ns Lf (c_ 5 0) (H_ (Lr F.length)))) (H_ (t_ 4 0 (List.length a+1) 18446744073709551621))) i_ (Ns (No (Sg (D_ 3)) (Ns Lf (g_ 6 0 r.length) (No (x_ ((c:Int)+1)) Lf))) (q_ 49 [] [c_ 1 0]) (No (Ns Lf (Vi i) (H_ (g_ 2 0 F.length))) Lf))) (K_ (Ns (Kw (Sg (Z_ e)) (Kr (msP (LD a) (KZ (stp (n_ b) (Prod.fst k) (G_ (P_ F c))) 0) (Lr a.length)) (mnP (LD a) (KZ (stp (n_ b) (Prod.fst k) (G_ (P_ F c))) 0) (Lr a.length)))) (h_ s d b) (KJ [Vi (Prod.fst k),Vi (Prod.snd k)] 78)) (LN (inV C) [g_ 2 0 F.length,g_ 7 0 e.length,g_ 8 0 f.length]) (Ns (Kw (Sg (O_ f)) (l_ (prs a++[KZ (stp (n_ b) (Prod.fst k) (G_ (P_ F c))) 0]) 78)) (f_ F) (Lu (List.set (inV r) c (Lr a.length)) 3)) 9)) (Oa c r/\c<List.length (inV r)/\F_ C/\U' d/\LQ b/\F_ F/\Kt (mvl (LD a))/\Kt (prs a)/\Kt (List.set (inV r) c (Vi (mgP (LD a) (KZ (stp (n_ b) (Prod.fst k) (G_ (P_ F c))) 0))))/\Kt (blV e)/\Kt (roV f)/\g (Ns (No (Ns Lf (q_ 51 [] [c_ 1 0]) (Ns Lf (c_ 5 0) (H_ (Lr F.length)))) (H_ (t_ 4 0 a.length 18446744073709551621))) i_ (Ns (No (Sg (D_ 3)) (Ns Lf (g_ 6 0 r.length) (No (x_ ((c:Int)+1)) Lf))) (q_ 49 [] [c_ 1 0]) (No (Ns Lf (Vi i) (H_ (g_ 2 0 F.length))) Lf))) (K_ (Ns (Kw (Sg (Z_ e)) (Kr (LD a) a.length)) (h_ s d b) (KJ [Vi (Prod.fst k),Vi (Prod.snd k)] 78)) (LN (inV C) [g_ 2 0 F.length,g_ 7 0 e.length,g_ 8 0 f.length]) (Ns (Kw (Sg (O_ f)) (l_ (prs a) 78)) (f_ F) (Lu (List.set (inV r) c (Vi (mgP (LD a) (KZ (stp (n_ b) (Prod.fst k) (G_ (P_ F c))) 0)))) 3)) 9))) (Om r f/\HFs [P' d,S_ b,P' d,S_ b] (LK s d b/\inA (s,v_ d,n_ b) (Prod.fst k))/\Value.slice (some ⟨7,0,none⟩) e.length 18446744073709551620=Value.slice (some ⟨7,0,none⟩) e.length 18446744073709551620/\(List.all [Value.bool (acS (s,v_ d,n_ b) k)] cellv=true/\List.length e+0=List.length (blV e)/\List.length e+(1:Nat)<=(70368744177664:Nat)/\(List.length e+1)*(1:Nat)<=(140737488355328:Nat))/\List.length (inV r)=List.length r/\F_ C/\U' d/\LQ b/\F_ F/\Kt (mvl (LD a))/\Kt (prs a)/\Kt (blV e++[Value.bool (acS (s,v_ d,n_ b) k)])/\Kt (roV f++[Vd 1 (inV r)])/\h (Ns (No (Sg (q_ 51 [] [c_ 1 0])) (H_ (t_ 4 0 a.length 18446744073709551621))) i_ (Ns (H_ (D_ 3)) (q_ 49 [] [c_ 1 0]) (No (x_ ((i:Int)+1)) Lf))) (K_ (Ns (Sg (Kr (LD a) a.length)) (h_ s d b) (Lu (blV e++[Value.bool (acS (s,v_ d,n_ b) k)]) 4)) (LN (inV C) [g_ 2 0 F.length,g_ 5 0 (List.length e+1),g_ 6 0 (List.length f+1)]) (Ns (Lu (prs a) 78) (f_ F) (Lu (roV f++[Vd 1 (inV r)]) 49)) 7))):=by kernel_rfl
theorem Es:type_of%(by have h:=@Mj;revert h;delta Om Oa b_ c_ d_ f_ g_ h_ i_ l_ m_ n_ q_ t_ v_ x_ D_ F_ G_ H_ I_ K_ O_ P_ S_ Z_ P' U' Kr Kt Kw KJ KZ Lr Lu LD LK LN LQ;exact id):=@Mj
abbrev M':=λa b c d e=>q_ a [] [c_ b c,c_ d c,c_ e c]
theorem Mk(g:CF)(K:KV)(C:Le)(F:Le)(a:PR)(s:Int)(c:Li)(e:La)(f:Int)(d:Li)(b:La):jEp g K C F a s c e f d b=(aR (SX.E (XEp g)) 121 [] 0 (KZ (Prod.fst a) (Prod.snd a)) (Vi 0)=some ([(KZ (Prod.fst a) (Prod.snd a),Vi 0,0)],1)/\F_ C/\U' c/\LQ e/\U' d/\LQ b/\F_ F/\Kt [Vi 0]/\Kt [KZ (Prod.fst a) (Prod.snd a)]/\LC/\LC/\LAtZ (XEp g) 1 f50.ntmps (hEp0 g C F s c e f d b) (ay f50) [1,1,1,1,0] (finK (SX.E (XEp g)) f50.results.toList K) (Ns (No (Sg (q_ 69 [] [c_ 2 0,c_ 3 0])) (H_ (t_ 6 0 1 18446744073709551621))) i_ (Ns (H_ (D_ 5)) (M' 68 1 0 2 3) (H_ (Vi 0)))) (K_ (Ns (Kw (Sg (AObj.gro [] [] 4)) (h_ f d b)) (m_ [KL (CF.id g)] 43) (Sg (Kr [(KZ (Prod.fst a) (Prod.snd a),Vi 0,0)] 1))) (LN (inV C) [g_ 4 0 F.length,KN 7 0,KN 8 0]) (Ns (Kw (Sg (AObj.gro [] [] 49)) (f_ F)) (h_ s c e) (Lu [KZ (Prod.fst a) (Prod.snd a)] 78)) 9)):=by kernel_rfl
theorem jEp_nf:type_of%(by have h:=@Mk;revert h;delta b_ c_ d_ f_ g_ h_ i_ l_ m_ q_ t_ D_ F_ H_ K_ S_ W_ M' U' Kr Kt Kw KL KN KZ Lu LC LN LQ;exact id):=@Mk
theorem Ml(g:CF)(K:KV)(m:KF)(k:Le)(l:Le)(C:Le)(F:Le)(a:List PR)(f:Li)(d:La)(s:Int)(c:Li)(h:La)(j:Int)(e:Li)(b:La)(i:Nat):jEpL g K m k l C F a f d s c h j e b i=(Sp (decide ((i:Int)<I_ a.length)) (ON i a/\nth (prs a) i=some (KZ (Prod.fst (prAt (prs a) i)) (Prod.snd (prAt (prs a) i)))/\OA F/\F_ C/\U' c/\LQ h/\U' e/\LQ b/\F_ F/\Kt (mvl (LD a))/\Kt (prs a)/\Kt (List.replicate F.length (Vi 0))/\Kt (blV f)/\Kt (roV d)/\LAtZ (XEp g) 1 f50.ntmps (hEp0 g k l s c h j e b) (an (subC [1,1,1,1,0] (ay f50))) [1,0,0,1,1,0,1,0] (stepF (XEp g) 1 f50.ntmps (hEp0 g k l s c h j e b) (ay f50) [1,1,1,1,0] (wg g K) nsEx [NPos.cell 0 258] [] [0,2,3,8,9,10] m) (Ns (No (Ns Lf (q_ 69 [] [c_ 2 0,c_ 3 0]) (Ns Lf (c_ 7 0) (H_ (Lr F.length)))) (H_ (t_ 6 0 a.length 18446744073709551621))) i_ (Ns (No (Sg (D_ 5)) (Ns Lf (g_ 8 0 F.length) (H_ (Vi 0)))) (M' 68 1 0 2 3) (No (Ns Lf (Vi i) (H_ (g_ 4 0 F.length))) Lf))) (K_ (Ns (Kw (KJ [Vi (Prod.fst (prAt (prs a) i)),Vi (Prod.snd (prAt (prs a) i))] 78) (h_ j e b)) (m_ [KL (CF.id g)] 43) (Kw (Sg (Z_ f)) (Kr (LD a) a.length))) (LN (inV C) [g_ 4 0 F.length,g_ 9 0 f.length,g_ 10 0 d.length]) (Ns (Kw (Lu (List.replicate F.length (Vi 0)) 3) (f_ F)) (h_ s c h) (Kw (Sg (O_ d)) (l_ (prs a) 78))) 11)) (K LF (K_ (Ns (Kw (Sg (Z_ f)) (h_ j e b)) (m_ [KL (CF.id g)] 43) (Sg (Kr (LD a) a.length))) (LN (inV C) [g_ 4 0 F.length,g_ 7 0 f.length,g_ 8 0 d.length]) (Ns (Kw (Sg (O_ d)) (f_ F)) (h_ s c h) (Lu (prs a) 78)) 9))):=by kernel_rfl
theorem Et:type_of%(by have h:=@Ml;revert h;delta ON OA b_ c_ d_ f_ g_ h_ i_ l_ m_ q_ t_ D_ F_ H_ I_ K_ O_ S_ Z_ M' U' Kr Kt Kw KJ KL KZ Lr Lu LD LF LN LQ;exact id):=@Ml
abbrev LJ:=λa b c d e=>KZ (stp a b c) (stp d e c)
theorem Mm(g:CF)(K:KV)(n:KF)(m:KF)(o:Le)(p:Le)(C:Le)(F:Le)(a:List PR)(h:Li)(j:La)(k:PR)(r:Le)(s:Int)(e:Li)(d:La)(l:Int)(f:Li)(b:La)(i c:Nat):jEpI g K n m o p C F a h j k r s e d l f b i c=(Sp (decide ((c:Int)<I_ F.length)) (Oa c F/\nth (inV F) c=some (Vi (P_ F c))/\HFs [P' e,S_ d,P' f,S_ b,P' e,S_ d,P' f,S_ b] (LK s e d/\LK l f b/\(inA (s,v_ e,n_ d) (Prod.fst k)/\inA (l,v_ f,n_ b) (Prod.snd k))/\0<=aa (inV F) c/\aa (inV F) (c:Int)<256)/\bY (SX.E (XEp g)) 121 (LD a) (LJ (n_ d) (Prod.fst k) (G_ (P_ F c)) (n_ b) (Prod.snd k))=some (Vi (mgP (LD a) (LJ (n_ d) (Prod.fst k) (G_ (P_ F c)) (n_ b) (Prod.snd k))),mhP (LD a) (LJ (n_ d) (Prod.fst k) (G_ (P_ F c)) (n_ b) (Prod.snd k)))/\Sp (! mhP (LD a) (LJ (n_ d) (Prod.fst k) (G_ (P_ F c)) (n_ b) (Prod.snd k))) (aR (SX.E (XEp g)) 121 (LD a) a.length (LJ (n_ d) (Prod.fst k) (G_ (P_ F c)) (n_ b) (Prod.snd k)) (Lr a.length)=some (msP (LD a) (LJ (n_ d) (Prod.fst k) (G_ (P_ F c)) (n_ b) (Prod.snd k)) (Lr a.length),mnP (LD a) (LJ (n_ d) (Prod.fst k) (G_ (P_ F c)) (n_ b) (Prod.snd k)) (Lr a.length))/\(List.all [Vi (stp (n_ d) (Prod.fst k) (G_ (P_ F c))),Vi (stp (n_ b) (Prod.snd k) (G_ (P_ F c)))] cellv=true/\List.length a+0=List.length (prs a)/\List.length a+(1:Nat)<=(70368744177664:Nat)/\(List.length a+1)*(16:Nat)<=(140737488355328:Nat))/\Oa c r/\c<List.length (inV r)/\F_ C/\U' e/\LQ d/\U' f/\LQ b/\F_ F/\Kt (mvl (msP (LD a) (LJ (n_ d) (Prod.fst k) (G_ (P_ F c)) (n_ b) (Prod.snd k)) (Lr a.length)))/\Kt (prs a++[LJ (n_ d) (Prod.fst k) (G_ (P_ F c)) (n_ b) (Prod.snd k)])/\Kt (List.set (inV r) c (Lr a.length))/\Kt (blV h)/\Kt (roV j)/\m (Ns (No (Ns Lf (q_ 69 [] [c_ 2 0,c_ 3 0]) (Ns Lf (c_ 7 0) (H_ (Lr F.length)))) (H_ (t_ 6 0 (List.length a+1) 18446744073709551621))) i_ (Ns (No (Sg (D_ 5)) (Ns Lf (g_ 8 0 r.length) (No (x_ ((c:Int)+1)) Lf))) (M' 68 1 0 2 3) (No (Ns Lf (Vi i) (H_ (g_ 4 0 F.length))) Lf))) (K_ (Ns (Kw (KJ [Vi (Prod.fst k),Vi (Prod.snd k)] 78) (h_ l f b)) (m_ [KL (CF.id g)] 43) (Kw (Sg (Z_ h)) (Kr (msP (LD a) (LJ (n_ d) (Prod.fst k) (G_ (P_ F c)) (n_ b) (Prod.snd k)) (Lr a.length)) (mnP (LD a) (LJ (n_ d) (Prod.fst k) (G_ (P_ F c)) (n_ b) (Prod.snd k)) (Lr a.length))))) (LN (inV C) [g_ 4 0 F.length,g_ 9 0 h.length,g_ 10 0 j.length]) (Ns (Kw (Lu (List.set (inV r) c (Lr a.length)) 3) (f_ F)) (h_ s e d) (Kw (Sg (O_ j)) (l_ (prs a++[LJ (n_ d) (Prod.fst k) (G_ (P_ F c)) (n_ b) (Prod.snd k)]) 78))) 11)) (Oa c r/\c<List.length (inV r)/\F_ C/\U' e/\LQ d/\U' f/\LQ b/\F_ F/\Kt (mvl (LD a))/\Kt (prs a)/\Kt (List.set (inV r) c (Vi (mgP (LD a) (LJ (n_ d) (Prod.fst k) (G_ (P_ F c)) (n_ b) (Prod.snd k)))))/\Kt (blV h)/\Kt (roV j)/\m (Ns (No (Ns Lf (q_ 69 [] [c_ 2 0,c_ 3 0]) (Ns Lf (c_ 7 0) (H_ (Lr F.length)))) (H_ (t_ 6 0 a.length 18446744073709551621))) i_ (Ns (No (Sg (D_ 5)) (Ns Lf (g_ 8 0 r.length) (No (x_ ((c:Int)+1)) Lf))) (M' 68 1 0 2 3) (No (Ns Lf (Vi i) (H_ (g_ 4 0 F.length))) Lf))) (K_ (Ns (Kw (KJ [Vi (Prod.fst k),Vi (Prod.snd k)] 78) (h_ l f b)) (m_ [KL (CF.id g)] 43) (Kw (Sg (Z_ h)) (Kr (LD a) a.length))) (LN (inV C) [g_ 4 0 F.length,g_ 9 0 h.length,g_ 10 0 j.length]) (Ns (Kw (Lu (List.set (inV r) c (Vi (mgP (LD a) (LJ (n_ d) (Prod.fst k) (G_ (P_ F c)) (n_ b) (Prod.snd k))))) 3) (f_ F)) (h_ s e d) (Kw (Sg (O_ j)) (l_ (prs a) 78))) 11))) ((List.all [g_ 8 0 r.length] cellv=true/\List.length j+0=List.length (roV j)/\List.length j+(1:Nat)<=(70368744177664:Nat)/\(List.length j+1)*(24:Nat)<=(140737488355328:Nat))/\HFs [P' e,S_ d,P' f,S_ b,P' e,S_ d,P' f,S_ b] (AObj.cells [KL (CF.id g)] 43=AObj.cells [KL (CF.id g)] 43/\LK s e d/\LK l f b/\inA (s,v_ e,n_ d) (Prod.fst k)/\inA (l,v_ f,n_ b) (Prod.snd k))/\Value.slice (some ⟨9,0,none⟩) h.length 18446744073709551620=Value.slice (some ⟨9,0,none⟩) h.length 18446744073709551620/\(List.all [Value.bool (acP2 g (s,v_ e,n_ d) (l,v_ f,n_ b) k)] cellv=true/\List.length h+0=List.length (blV h)/\List.length h+(1:Nat)<=(70368744177664:Nat)/\(List.length h+1)*(1:Nat)<=(140737488355328:Nat))/\List.length (inV r)=List.length r/\F_ C/\U' e/\LQ d/\U' f/\LQ b/\F_ F/\Kt (mvl (LD a))/\Kt (prs a)/\Kt (blV h++[Value.bool (acP2 g (s,v_ e,n_ d) (l,v_ f,n_ b) k)])/\Kt (roV j++[Vd 1 (inV r)])/\n (Ns (No (Sg (q_ 69 [] [c_ 2 0,c_ 3 0])) (H_ (t_ 6 0 a.length 18446744073709551621))) i_ (Ns (H_ (D_ 5)) (M' 68 1 0 2 3) (No (x_ ((i:Int)+1)) Lf))) (K_ (Ns (Kw (Lu (blV h++[Value.bool (acP2 g (s,v_ e,n_ d) (l,v_ f,n_ b) k)]) 4) (h_ l f b)) (m_ [KL (CF.id g)] 43) (Sg (Kr (LD a) a.length))) (LN (inV C) [g_ 4 0 F.length,g_ 7 0 (List.length h+1),g_ 8 0 (List.length j+1)]) (Ns (Kw (Lu (roV j++[Vd 1 (inV r)]) 49) (f_ F)) (h_ s e d) (Lu (prs a) 78)) 9))):=by kernel_rfl
theorem Eu:type_of%(by have h:=@Mm;revert h;delta Oa b_ c_ d_ f_ g_ h_ i_ l_ m_ n_ q_ t_ v_ x_ D_ F_ G_ H_ I_ K_ O_ P_ S_ Z_ M' P' U' Kr Kt Kw KJ KL KZ Lr Lu LD LJ LK LN LQ;exact id):=@Mm
theorem tz(ks:List PR)(k:PR):mhP (enP (mkM ks)) (prV k)=decide (k∈ks):=by unfold mhP;rw[invP];show(aget (mkM ks) k).isSome=_;grind [ix]
theorem DB(ks:List PR)(k:PR)(h:k∈ks):mgP (enP (mkM ks)) (prV k)=(idN ks k:Nat):=by unfold mgP;rw[invP];show(aget (mkM ks) k).getD 0=_;rw[ix,Ht h];rfl
theorem Dx(ks:List PR)(k:PR)(h:¬ k∈ks):msP (enP (mkM ks)) (prV k) (.int .i64 (ks.length:Nat))=enP (mkM (ks++[k])):=by unfold msP;rw[invP];show enP (aset (mkM ks) k ((ks.length:Nat):Int))=_;rw[eg h]
theorem Dz(ks:List PR)(k:PR)(h:¬ k∈ks):mnP (enP (mkM ks)) (prV k) (.int .i64 (ks.length:Nat))=(ks++[k]).length:=by unfold mnP;rw[invP];show(aset (mkM ks) k ((ks.length:Nat):Int)).length=_;rw[eg h,gj]
theorem uz(ks:List PR)(k:PR)(h:¬ k∈ks):aR env 121 (enP (mkM ks)) ks.length (prV k) (.int .i64 (ks.length:Nat))=some (enP (mkM (ks++[k])),(ks++[k]).length):=by grind [updP,mkM,gj,eg]
theorem pP{S:Type}[DecidableEq S]{s:S}:∀ {ks:List S},¬s∈ks->idN (ks++[s]) s=ks.length
 | [],_=>by simp[idN]
 |x::l,h=>by have a:¬ x=s:=λe=>h (by simp[e]);have d:¬ s∈l:=λe=>h (by simp[e]);simp only[IY,idN,Hm a,HW,pP d]
theorem pw(l:List PR):(prs l).length=l.length:=Hp _
theorem px(l r:List PR):prs l++prs r=prs (l++r):=by unfold prs;rw[List.map_append]
theorem db(l:List PR):HF (.agg ⟨prs l⟩):=.agg λx a=>by obtain⟨k,_,rfl⟩:=Hn.1 a;exact .agg (HF.cons (HFi _ _) (HF.cons (HFi _ _) HF.nil))
theorem j4{i:Nat}(h:i<l.length):nth (prs l) i=some (prV l[i]):=by rw[aP];simp[prs,h]
theorem mf{i:Nat}(h:i<l.length):prAt (prs l) (i:Int)=l[i]:=by unfold prAt;rw[D',j4 h];rfl
theorem au(l:Li):HF (.agg ⟨blV l⟩):=.agg (ax l)
theorem aw(l:La):HF (.agg ⟨roV l⟩):=.agg (aq l)
theorem iM(l:Li)(b:Bool):blV l++[.bool b]=blV (l++[b]):=by grind [blV]
theorem cR(l:La)(r:Le):roV l++[dat 1 (inV r)]=roV (l++[r]):=by grind [roV]
theorem jQ(A:Le)(m:Nat)(x:Int)(h:0<m):(A++List.replicate m 0).set A.length x=(A++[x])++List.replicate (m-1) 0:=by obtain⟨m,rfl⟩:∃ j,m=j+1:=⟨m-1,by omega⟩;grind
theorem dE(n:Nat):List.replicate n (Value.int .i64 0)=inV (List.replicate n 0):=by unfold inV;rw[Js]
def inF(F:Lg):Le:=F.map Int.ofNat
theorem ao(F:Lg):(inF F).length=F.length:=Hp _
theorem bD(h:c<F.length):(inF F)[c]'(by rw[ao];exact h)=(F[c]:Int):=by simp[inF]
def scF(F:Lg)(f:PR->Nat->PR)(k:PR):List PR:=F.map (f k)
def inS(a:AU)(k:PR):Prop:=inA a k.1/\k.2=0
def inP2(a b:AU)(k:PR):Prop:=inA a k.1/\inA b k.2
theorem wy{a:AU}(h:OkA a)(l:List PR)(f:l.Nodup)(d:∀ k∈l,inS a k):l.length<=90000:=q9 l f λk e=>by obtain⟨⟨j,i⟩,g⟩:=d k e;have:=h.n1;omega
theorem gR{a:AU}(h:OkA a)(g:OkA b)(l:List PR)(f:l.Nodup)(d:∀ k∈l,inP2 a b k):l.length<=90000:=q9 l f λk e=>by obtain⟨⟨o,m⟩,j,i⟩:=d k e;have:=h.n1;have:=g.n1;omega
theorem mD{a:AU}(h:OkA a)(g:∀ c∈F,c<256)(k:PR)(d:inS a k):∀ s∈scF F (stS a) k,inS a s:=λs e=>by obtain⟨c,f,rfl⟩:=Hn.1 e;exact⟨eY h d.1.1 d.1.2 (g c f),rfl⟩
theorem gQ{a:AU}(h:OkA a)(i:OkA b)(f:∀ c∈F,c<256)(k:PR)(d:inP2 a b k):∀ s∈scF F (stP a b) k,inP2 a b s:=λs g=>by obtain⟨c,e,rfl⟩:=Hn.1 g;exact⟨eY h d.1.1 d.1.2 (f c e),eY i d.2.1 d.2.2 (f c e)⟩
def rowC(a l:List PR)(n c:Nat):Le:=nums a l++List.replicate (n-c) 0
theorem dY(h:l.length=c)(a:c<=n):(rowC ks l n c).length=n:=by unfold rowC;rw[E',b6,HZ];omega
theorem l8{s:PR}(h:l.length=c)(i:c<n)(f:∀ x∈l,x∈ks)(d:¬ s∈ks):(rowC ks l n c).set c (ks.length:Nat)=rowC (ks++[s]) (l++[s]) n (c+1):=by
 unfold rowC;have a:=b6 ks l;rw[h]at a;have:=jQ (nums ks l) (n-c) (ks.length:Nat) (by omega);rw[a]at this;rw[this];have e:nums (ks++[s]) (l++[s])=nums ks l++[((ks.length:Nat):Int)]:=by have g:nums (ks++[s]) (l++[s])=nums (ks++[s]) l++nums (ks++[s]) [s]:=List.map_append;rw[g,mo [s] f];show _++[((idN (ks++[s]) s:Nat):Int)]=_;rw[pP d]
 grind
theorem l7{s:PR}(h:l.length=c)(a:c<n):(rowC ks l n c).set c (idN ks s:Nat)=rowC ks (l++[s]) n (c+1):=by grind [rowC,b6,jQ,nums,idN]
theorem l9(ks l:List PR)(n:Nat):rowC ks l n n=nums ks l:=by unfold rowC;simp
theorem dU{f:Nat->PR}(h:c<F.length):(F.take (c+1)).map f=(F.take c).map f++[f F[c]]:=by rw[HC h,List.map_append];rfl
theorem z0(K:KV)(again2:KF)(P O C:Le)(F:Lg)(R:∀ c∈F,c<256)(Z:F.length<=256){a:AU}(B:OkA a)(e:List PR)(nd:e.Nodup)(E:∀ k∈e,inS a k)(k:PR)(M:inS a k)(ac:Li)(h:La)(Y:ac.length<=90000)(S:h.length<=90000)(i:Nat)(hi:i<=90000)
 (t:again2 (FN (addS e (scF F (stS a) k)).length (i+1)) (hEsL C (inF F) (addS e (scF F (stS a) k)) (ac++[acS a k]) (h++[nums (addS e (scF F (stS a) k)) (scF F (stS a) k)]) a.1 a.2.1 a.2.2)):
 LAtZ XEx 1 (Func.ntmps f50) (hEs0 P O a.1 a.2.1 a.2.2) (an (subC [1,1,1,1,0] (ay f50))) [1,0,0,1,1,0,1,0] (kEs2 K again2 P O a.1 a.2.1 a.2.2) (FO e.length (inF F).length (rowC e [] F.length 0).length i 0) (hEsI C (inF F) e ac h k (rowC e [] F.length 0) a.1 a.2.1 a.2.2):=by
 obtain⟨s,d,f⟩:=a;have o:=ao F;refine LAtZ.stepF yh [] [] [] [0,2,3,8,9,10,11,12,42,43,44] (by kernel_rfl) (λm G A=>∃ c:Nat,G=FO (addS e ((F.take c).map (stS (s,d,f) k))).length (inF F).length (rowC (addS e ((F.take c).map (stS (s,d,f) k))) ((F.take c).map (stS (s,d,f) k)) F.length c).length i c/\A=hEsI C (inF F) (addS e ((F.take c).map (stS (s,d,f) k))) ac h k (rowC (addS e ((F.take c).map (stS (s,d,f) k))) ((F.take c).map (stS (s,d,f) k)) F.length c) s d f/\c+m=F.length) ?_ (k:=F.length) ⟨0,rfl,rfl,by omega⟩;rintro m G A ⟨c,rfl,rfl,X⟩;generalize D:(F.take c).map (stS (s,d,f) k)=l;generalize w:addS e l=ks;have v:l.length=c:=by grind
 have J:∀ x∈l,x∈ks:=λx H=>by grind [eN]
 have I:ks.Nodup:=by grind [cy]
 have z:∀ x∈ks,inS (s,d,f) x:=λx H=>by rw[<-w]at H;rcases du H with q|q;exact E x q;rw[<-D]at q;obtain⟨b,Q,rfl⟩:=Hn.1 q;exact mD B R k M _ (Hn.2 ⟨b,IJ Q,rfl⟩)
 have V:ks.length<=90000:=wy B ks I z;have u:=dY (ks:=ks) (n:=F.length) v (by omega);refine(Es _ _ _ P O C (inF F) ks ac h k (rowC ks l F.length c) s d f i c).mpr (Sp.intro (λq=>?_) (λq=>?_));have q:=odt q;rw[o]at q;have y:c<F.length:=by omega
 have N:c<(inF F).length:=by rw[o];exact y
 have Q:F[c]<256:=R _ (Hq y);have j:=fC (stS (s,d,f) k F[c]) l e;rw[w]at j;have r:(F.take (c+1)).map (stS (s,d,f) k)=l++[stS (s,d,f) k F[c]]:=by rw[dU y,D]
 rw[aA N,bD y,D',bf,bd,u,o];have es:Value.agg (Array.mk [Vi (stp f (Prod.fst k) F[c]),Vi 0])=prV (stS (s,d,f) k F[c]):=rfl;rw[es,tz];refine⟨⟨by omega,q⟩,by grind [aL,bD],⟨.dat (ax _),.dat (aq _),.dat (ax _),.dat (aq _),⟨rfl,B⟩,M.1,by omega,by omega⟩,(DG _ _).trans (by rw[tz]),Sp.intro (λg=>?_) (λg=>?_)⟩;have g:¬ stS (s,d,f) k F[c]∈ks:=by simpa using g
 rw[Hm g]at j;have ep:[prV (stS (s,d,f) k F[c])]=prs [stS (s,d,f) k F[c]]:=rfl;rw[Dx _ _ g,Dz _ _ g,ep,px,bz,l8 v y J g,aF (x:=(c:Int)+1) (by omega) (by omega)];refine⟨uz _ _ g,⟨rfl,by rw[pw];omega,by omega,by omega⟩,⟨by omega,by omega⟩,by rw[af,u];omega,ab _,.dat (ax _),.dat (aq _),ab _,eT _,db _,ab _,au _,aw _,m-1,by omega,c+1,?_,?_,by omega⟩;rw[r,j];have p:=dY (ks:=ks++[stS (s,d,f) k F[c]]) (l:=l++[stS (s,d,f) k F[c]]) (n:=F.length) (c:=c+1) (by grind) (by omega);rw[p,E'];rfl;rw[r,j];unfold hEsI;rw[o];rfl;have g:stS (s,d,f) k F[c]∈ks:=by simpa using g
 rw[Ht g]at j;rw[DB _ _ g,bz,l7 v y,aF (x:=(c:Int)+1) (by omega) (by omega)];refine⟨⟨by omega,by omega⟩,by rw[af,u];omega,ab _,.dat (ax _),.dat (aq _),ab _,eT _,db _,ab _,au _,aw _,m-1,by omega,c+1,?_,?_,by omega⟩;rw[r,j];have p:=dY (ks:=ks) (l:=l++[stS (s,d,f) k F[c]]) (n:=F.length) (c:=c+1) (by grind) (by omega);rw[p];rfl;rw[r,j];unfold hEsI;rw[o];rfl;have q:=odf q;rw[o]at q;obtain rfl:c=F.length:=by omega
 rw[HX]at D;have L:l=scF F (stS (s,d,f)) k:=D.symm;rw[<-L,w]at t;rw[l9,bf,bd,iM,aF (x:=(i:Int)+1) (by omega) (by omega)];have U:=b6 ks l;refine⟨⟨rfl,by rw[aG];omega,by omega,by omega⟩,⟨.dat (ax _),.dat (aq _),.dat (ax _),.dat (aq _),⟨rfl,B⟩,M.1⟩,rfl,⟨rfl,by rw[aT];omega,by omega,by omega⟩,by rw[af],ab _,.dat (ax _),.dat (aq _),ab _,eT _,db _,au _,?_,?_⟩;exact(cR h (nums ks l))▸aw _;have e1:roV h++[Vd 1 (inV (nums ks l))]=roV (h++[nums ks l]):=cR _ _;rw[e1];unfold hEsL at t;rw[E',E']at t;exact t
theorem z3(g:CF)(K:KV)(again2:KF)(U S C:Le)(F:Lg)(X:∀ c∈F,c<256)(a3:F.length<=256){a:AU}(I:OkA a)(v:OkA b)(h:List PR)(nd:h.Nodup)(L:∀ k∈h,inP2 a b k)(k:PR)(Q:inP2 a b k)(ac:Li)(p:La)(a2:ac.length<=90000)(Y:p.length<=90000)(i:Nat)(hi:i<=90000)
 (y:again2 (FS (addS h (scF F (stP a b) k)).length (i+1)) (hEpL g C (inF F) (addS h (scF F (stP a b) k)) (ac++[acP2 g a b k]) (p++[nums (addS h (scF F (stP a b) k)) (scF F (stP a b) k)]) a.1 a.2.1 a.2.2 b.1 b.2.1 b.2.2)):
 LAtZ (XEp g) 1 (Func.ntmps f50) (hEp0 g U S a.1 a.2.1 a.2.2 b.1 b.2.1 b.2.2) (an (subC [1,1,1,1,0] (ay f50))) [1,0,0,1,1,0,1,0] (kEp2 g K again2 U S a.1 a.2.1 a.2.2 b.1 b.2.1 b.2.2) (FV h.length (inF F).length (rowC h [] F.length 0).length i 0) (hEpI g C (inF F) h ac p k (rowC h [] F.length 0) a.1 a.2.1 a.2.2 b.1 b.2.1 b.2.2):=by
 obtain⟨s,f,j⟩:=a;obtain⟨o,d,e⟩:=b;have t:=ao F;refine LAtZ.stepF (yi g) [] [] [] [0,2,3,8,9,10,11,12,42,43,44] (by kernel_rfl) (λm G A=>∃ c:Nat,G=FV (addS h ((F.take c).map (stP (s,f,j) (o,d,e) k))).length (inF F).length (rowC (addS h ((F.take c).map (stP (s,f,j) (o,d,e) k))) ((F.take c).map (stP (s,f,j) (o,d,e) k)) F.length c).length i c/\A=hEpI g C (inF F) (addS h ((F.take c).map (stP (s,f,j) (o,d,e) k))) ac p k (rowC (addS h ((F.take c).map (stP (s,f,j) (o,d,e) k))) ((F.take c).map (stP (s,f,j) (o,d,e) k)) F.length c) s f j o d e/\c+m=F.length) ?_ (k:=F.length) ⟨0,rfl,rfl,by omega⟩;rintro m G A ⟨c,rfl,rfl,a1⟩;generalize J:(F.take c).map (stP (s,f,j) (o,d,e) k)=l;generalize D:addS h l=ks;have B:l.length=c:=by grind
 have O:∀ x∈l,x∈ks:=λx M=>by grind [eN]
 have N:ks.Nodup:=by grind [cy]
 have H:∀ x∈ks,inP2 (s,f,j) (o,d,e) x:=λx M=>by rw[<-D]at M;rcases du M with q|q;exact L x q;rw[<-J]at q;obtain⟨b,V,rfl⟩:=Hn.1 q;exact gQ I v X k Q _ (Hn.2 ⟨b,IJ V,rfl⟩)
 have a0:ks.length<=90000:=gR I v ks N H;have z:=dY (ks:=ks) (n:=F.length) B (by omega);refine(Eu g _ _ _ U S C (inF F) ks ac p k (rowC ks l F.length c) s f j o d e i c).mpr (Sp.intro (λq=>?_) (λq=>?_));have q:=odt q;rw[t]at q;have E:c<F.length:=by omega
 have R:c<(inF F).length:=by rw[t];exact E
 have V:F[c]<256:=X _ (Hq E);have r:=fC (stP (s,f,j) (o,d,e) k F[c]) l h;rw[D]at r;have w:(F.take (c+1)).map (stP (s,f,j) (o,d,e) k)=l++[stP (s,f,j) (o,d,e) k F[c]]:=by rw[dU E,J]
 rw[aA R,bD E,D',bf,bd,bf,bd,z,t];have es:Value.agg (Array.mk [Vi (stp j (Prod.fst k) F[c]),Vi (stp e (Prod.snd k) F[c])])=prV (stP (s,f,j) (o,d,e) k F[c]):=rfl;rw[es,tz];refine⟨⟨by omega,q⟩,by grind [aL,bD],⟨.dat (ax _),.dat (aq _),.dat (ax _),.dat (aq _),.dat (ax _),.dat (aq _),.dat (ax _),.dat (aq _),⟨rfl,I⟩,⟨rfl,v⟩,Q,by omega,by omega⟩,(DG _ _).trans (by rw[tz]),Sp.intro (λg=>?_) (λg=>?_)⟩;have g:¬ stP (s,f,j) (o,d,e) k F[c]∈ks:=by simpa using g
 rw[Hm g]at r;have ep:[prV (stP (s,f,j) (o,d,e) k F[c])]=prs [stP (s,f,j) (o,d,e) k F[c]]:=rfl;rw[Dx _ _ g,Dz _ _ g,ep,px,bz,l8 B E O g,aF (x:=(c:Int)+1) (by omega) (by omega)];refine⟨uz _ _ g,⟨rfl,by rw[pw];omega,by omega,by omega⟩,⟨by omega,by omega⟩,by rw[af,z];omega,ab _,.dat (ax _),.dat (aq _),.dat (ax _),.dat (aq _),ab _,eT _,db _,ab _,au _,aw _,m-1,by omega,c+1,?_,?_,by omega⟩;rw[w,r];have u:=dY (ks:=ks++[stP (s,f,j) (o,d,e) k F[c]]) (l:=l++[stP (s,f,j) (o,d,e) k F[c]]) (n:=F.length) (c:=c+1) (by grind) (by omega);rw[u,E'];rfl;rw[w,r];unfold hEpI;rw[t];rfl;have g:stP (s,f,j) (o,d,e) k F[c]∈ks:=by simpa using g
 rw[Ht g]at r;rw[DB _ _ g,bz,l7 B E,aF (x:=(c:Int)+1) (by omega) (by omega)];refine⟨⟨by omega,by omega⟩,by rw[af,z];omega,ab _,.dat (ax _),.dat (aq _),.dat (ax _),.dat (aq _),ab _,eT _,db _,ab _,au _,aw _,m-1,by omega,c+1,?_,?_,by omega⟩;rw[w,r];have u:=dY (ks:=ks) (l:=l++[stP (s,f,j) (o,d,e) k F[c]]) (n:=F.length) (c:=c+1) (by grind) (by omega);rw[u];rfl;rw[w,r];unfold hEpI;rw[t];rfl;have q:=odf q;rw[t]at q;obtain rfl:c=F.length:=by omega
 rw[HX]at J;have P:l=scF F (stP (s,f,j) (o,d,e)) k:=J.symm;rw[<-P,D]at y;rw[l9,bf,bd,bf,bd,iM,aF (x:=(i:Int)+1) (by omega) (by omega)];have Z:=b6 ks l;refine⟨⟨rfl,by rw[aG];omega,by omega,by omega⟩,⟨.dat (ax _),.dat (aq _),.dat (ax _),.dat (aq _),.dat (ax _),.dat (aq _),.dat (ax _),.dat (aq _),rfl,⟨rfl,I⟩,⟨rfl,v⟩,Q⟩,rfl,⟨rfl,by rw[aT];omega,by omega,by omega⟩,by rw[af],ab _,.dat (ax _),.dat (aq _),.dat (ax _),.dat (aq _),ab _,eT _,db _,au _,?_,?_⟩;exact(cR p (nums ks l))▸aw _;have e1:roV p++[Vd 1 (inV (nums ks l))]=roV (p++[nums ks l]):=cR _ _;rw[e1];unfold hEpL at y;rw[E',E']at y;exact y
theorem AL(ks:List PR)(n:Nat):rowC ks [] n 0=List.replicate n 0:=rfl
def reS(F:Lg)(a:AU):List PR:=exS (scF F (stS a)) 90001 [(a.1,0)] 0
def reP(F:Lg)(a b:AU):List PR:=exS (scF F (stP a b)) 90001 [(a.1,b.1)] 0
def hEsE(C F:Le)(a:Li)(b:La)(s:Int)(d:Li)(c:La):AH:=⟨(Nd (Nd (Nd Lf (some (.gro (blV a) [] 4)) Lf) (some (auC s d c)) Lf) (some (dfO C [groS 2 F.length,groS 3 a.length,groS 4 b.length])) (Nd (Nd Lf (some (.gro (roV b) [] 49)) Lf) (some (.gro (inV F) [] 3)) Lf)),5⟩
theorem end_es(Q:Value->AH->Prop)(f g C F:Le)(e:List PR)(d:Li)(c:La)(s:Int)(a:Li)(b:La):endF env (hEs0 f g s a b) [] [] [] Q (.tuple ⟨[]⟩) (hEsL C F e d c s a b)=(HF (.agg ⟨inV C⟩)/\HF (dat 1 (blV a))/\HF (dat 1 (roV b))/\HF (.agg ⟨inV F⟩)/\HF (.agg ⟨blV d⟩)/\HF (.agg ⟨roV c⟩)/\Q (.tuple ⟨[]⟩) (hEsE C F d c s a b)):=by kernel_rfl
theorem F7(C:Le)(F:Lg)(B:∀ c∈F,c<256)(y:F.length<=256){a:AU}(p:OkA a):WalkF env f50 [.pointer (some ⟨0,0,none⟩),prV (a.1,0),cAs 1,cSs 1] (hEs0 C (inF F) a.1 a.2.1 a.2.2) (.tuple ⟨[]⟩) (hEsE C (inF F) ((reS F a).map (acS a)) (bc (scF F (stS a)) (reS F a) (reS F a).length) a.1 a.2.1 a.2.2):=by
 obtain⟨s,e,f⟩:=a;have o:=ao F;have u:=p.st;refine aC yh (d:=1) (ns:=[]) (zs:=[]) (ws:=[]) ((jEs_nf _ C (inF F) (s,0) s e f).mpr ⟨?_,ab _,.dat (ax _),.dat (aq _),ab _,ab [0],db [(s,0)],au [],aw [],?_⟩);have:=updP ([]:List (PR×Int)) (s,0) 0;exact this;refine LAtZ.stepF yh nsEx [.cell 0 258] [] [0,2,3,8,9,10] (by kernel_rfl) (λm G A=>∃ (i:Nat) (ks:List PR),G=FN ks.length i/\A=hEsL C (inF F) ks ((ks.take i).map (acS (s,e,f))) (bc (scF F (stS (s,e,f))) ks i) s e f/\EI (scF F (stS (s,e,f))) (inS (s,e,f)) 90001 (s,0) ks i/\i+m=90001) ?_ (k:=90001) ⟨0,[(s,0)],rfl,rfl,EI.init ⟨u,rfl⟩,by omega⟩;rintro m G A ⟨i,ks,rfl,rfl,g,H⟩;have D:ks.length<=90000:=wy p ks g.nd g.inp;have I:=g.le;refine(Er _ _ C (inF F) C (inF F) ks _ _ s e f i).mpr (Sp.intro (λq=>?_) (λq=>?_));have q:=odt q;have t:i<ks.length:=by omega
 have E:=g.inp _ (Hq t);have x:ks[i]? =some ks[i]:=Hr t;obtain⟨z,j⟩:=g.step (mD p B) x (by omega);have w:((ks.take i).map (acS (s,e,f))).length=i:=by grind
 have v:(bc (scF F (stS (s,e,f))) ks i).length=i:=by grind [bc,Hp,Ic]
 rw[mf t,o];refine⟨⟨by omega,q⟩,j4 t,⟨by omega,by omega,by omega,by omega⟩,ab _,.dat (ax _),.dat (aq _),ab _,eT _,db _,?_,au _,aw _,?_⟩;rw[dE];exact ab _;have h:=λ(K:KV) (M:KF)=>z0 K M C (inF F) C F B y p ks g.nd g.inp ks[i] E ((ks.take i).map (acS (s,e,f))) (bc (scF F (stS (s,e,f))) ks i) (by rw[w];omega) (by rw[v];omega) i (by omega);simp only[AL,HZ,hEsI,o]at h;rw[dE];refine h _ _ ?_;refine⟨m-1,by omega,i+1,addS ks (scF F (stS (s,e,f)) ks[i]),rfl,?_,z,by omega⟩;rw[j];obtain⟨r,N⟩:=cN (scF F (stS (s,e,f)) ks[i]) ks;grind [addS,scF,stS,acS,IM,HC];have q:=odf q;obtain⟨L,J⟩:=g.done (by omega) (by omega);subst L;refine(end_es _ C (inF F) C (inF F) ks _ _ s e f).mpr ⟨ab _,.dat (ax _),.dat (aq _),ab _,au _,aw _,rfl,?_⟩;rw[HX,J];rfl
def hEpE(g:CF)(C F:Le)(b:Li)(a:La)(s:Int)(e:Li)(h:La)(d:Int)(f:Li)(c:La):AH:=⟨(Nd (Nd (Nd Lf (some (auC d f c)) Lf) (some (fnO g)) (Nd Lf (some (.gro (blV b) [] 4)) Lf)) (some (dfO C [groS 4 F.length,groS 5 b.length,groS 6 a.length])) (Nd (Nd Lf (some (.gro (inV F) [] 3)) Lf) (some (auC s e h)) (Nd Lf (some (.gro (roV a) [] 49)) Lf))),7⟩
theorem end_ep(g:CF)(Q:Value->AH->Prop)(j k C F:Le)(i:List PR)(h:Li)(f:La)(s:Int)(b:Li)(d:La)(e:Int)(c:Li)(a:La):endF env (hEp0 g j k s b d e c a) [] [] [] Q (.tuple ⟨[]⟩) (hEpL g C F i h f s b d e c a)=(HF (.agg ⟨inV C⟩)/\HF (dat 1 (blV b))/\HF (dat 1 (roV d))/\HF (dat 1 (blV c))/\HF (dat 1 (roV a))/\HF (.agg ⟨inV F⟩)/\HF (.agg ⟨blV h⟩)/\HF (.agg ⟨roV f⟩)/\Q (.tuple ⟨[]⟩) (hEpE g C F h f s b d e c a)):=by kernel_rfl
theorem Gd(g:CF)(C:Le)(F:Lg)(I:∀ c∈F,c<256)(E:F.length<=256){a:AU}(u:OkA a)(p:OkA b):WalkF env f50 [.pointer (some ⟨0,0,none⟩),prV (a.1,b.1),cAp 1 2 3,cSp 2 3] (hEp0 g C (inF F) a.1 a.2.1 a.2.2 b.1 b.2.1 b.2.2) (.tuple ⟨[]⟩) (hEpE g C (inF F) ((reP F a b).map (acP2 g a b)) (bc (scF F (stP a b)) (reP F a b) (reP F a b).length) a.1 a.2.1 a.2.2 b.1 b.2.1 b.2.2):=by
 obtain⟨s,h,o⟩:=a;obtain⟨j,e,f⟩:=b;have x:=ao F;have J:=u.st;refine aC (yi g) (d:=1) (ns:=[]) (zs:=[]) (ws:=[]) ((jEp_nf g _ C (inF F) (s,j) s h o j e f).mpr ⟨?_,ab _,.dat (ax _),.dat (aq _),.dat (ax _),.dat (aq _),ab _,ab [0],db [(s,j)],au [],aw [],?_⟩);have:=updP ([]:List (PR×Int)) (s,j) 0;exact this;refine LAtZ.stepF (yi g) nsEx [.cell 0 258] [] [0,2,3,8,9,10] (by kernel_rfl) (λm G A=>∃ (i:Nat) (ks:List PR),G=FS ks.length i/\A=hEpL g C (inF F) ks ((ks.take i).map (acP2 g (s,h,o) (j,e,f))) (bc (scF F (stP (s,h,o) (j,e,f))) ks i) s h o j e f/\EI (scF F (stP (s,h,o) (j,e,f))) (inP2 (s,h,o) (j,e,f)) 90001 (s,j) ks i/\i+m=90001) ?_ (k:=90001) ⟨0,[(s,j)],rfl,rfl,EI.init ⟨u.st,p.st⟩,by omega⟩;rintro m G A ⟨i,ks,rfl,rfl,t,N⟩;have L:ks.length<=90000:=gR u p ks t.nd t.inp;have O:=t.le;refine(Et g _ _ C (inF F) C (inF F) ks _ _ s h o j e f i).mpr (Sp.intro (λq=>?_) (λq=>?_));have q:=odt q;have y:i<ks.length:=by omega
 have M:=t.inp _ (Hq y);have D:ks[i]? =some ks[i]:=Hr y;obtain⟨H,w⟩:=t.step (gQ u p I) D (by omega);have B:((ks.take i).map (acP2 g (s,h,o) (j,e,f))).length=i:=by grind
 have z:(bc (scF F (stP (s,h,o) (j,e,f))) ks i).length=i:=by grind [bc,Hp,Ic]
 rw[mf y,x];refine⟨⟨by omega,q⟩,j4 y,⟨by omega,by omega,by omega,by omega⟩,ab _,.dat (ax _),.dat (aq _),.dat (ax _),.dat (aq _),ab _,eT _,db _,?_,au _,aw _,?_⟩;rw[dE];exact ab _;have v:=λ(K:KV) (R:KF)=>z3 g K R C (inF F) C F I E u p ks t.nd t.inp ks[i] M ((ks.take i).map (acP2 g (s,h,o) (j,e,f))) (bc (scF F (stP (s,h,o) (j,e,f))) ks i) (by rw[B];omega) (by rw[z];omega) i (by omega);simp only[AL,HZ,hEpI,x]at v;rw[dE];refine v _ _ ?_;refine⟨m-1,by omega,i+1,addS ks (scF F (stP (s,h,o) (j,e,f)) ks[i]),rfl,?_,H,by omega⟩;rw[w];obtain⟨r,S⟩:=cN (scF F (stP (s,h,o) (j,e,f)) ks[i]) ks;grind [addS,scF,stP,acP2,IM,HC];have q:=odf q;obtain⟨Q,P⟩:=t.done (by omega) (by omega);subst Q;refine(end_ep g _ C (inF F) C (inF F) ks _ _ s h o j e f).mpr ⟨ab _,.dat (ax _),.dat (aq _),.dat (ax _),.dat (aq _),ab _,au _,aw _,rfl,?_⟩;rw[HX,P];rfl
end
end Go.T9
