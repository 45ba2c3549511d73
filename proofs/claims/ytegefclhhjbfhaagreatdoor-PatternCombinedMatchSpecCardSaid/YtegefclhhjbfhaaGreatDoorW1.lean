/- A part of the proof. -/
import Derived.Test.YtegefclhhjbfhaaGreatDoorQ2
import Derived.Test.YtegefclhhjbfhaaGreatDoorX5
set_option linter.unusedVariables false
set_option linter.unusedSimpArgs false
set_option linter.unusedSectionVars false
set_option maxRecDepth 1000000
namespace Go.T9
open Go Go.AM Go.MK Go.Proofs.Tryz
noncomputable section
def sameP(R:Prop)(b:Lh):Lh->Ll:=λa=>some (R/\a=b)
def gc(v:Value):Lh->Lj:=λ_=>some v
theorem jR{f:FuncId}{a:Lh}{u:Value}{R:Prop}(h:R->∀ A,CallAt env f a A u A):∀ args A p v A',bg (sameP R a) (gc u) args A=some (p,v,A')->PH p->CallAt env f args A v A':=fM λargs v e b A=>by cases e;obtain⟨r,rfl⟩:R/\args=a:=b;exact h r A
theorem cK{f:FuncId}{fn:Func}{a:Lh}{u:Value}{R:Prop}(b:env.fn f=some fn)(d:∀ x∈a,HF x)(c:R->Walk env fn a u):∀ args A p v A',bg (sameP R a) (gc u) args A=some (p,v,A')->PH p->CallAt env f args A v A':=jR λr=>c8 ai am b d (c r)
def vaP(P:Value->Prop):Lh->Ll
 | [u]=>some (P u)
 |_=>none
def vaX(f:Value->Value):Lh->Lj
 | [u]=>some (f u)
 |_=>none
theorem va_at{f:FuncId}{P:AU->Prop}{g:AU->Value}(h:∀ a,P a->∀ A,CallAt env f [auV a] A (g a) A):∀ args A p v A',bg (vaP λu=>u=auV (auD u)/\P (auD u)) (vaX λu=>g (auD u)) args A=some (p,v,A')->PH p->CallAt env f args A v A':=fM λargs v e b A=>by unfold vaX at e;split at e;rename_i u;cases e;obtain⟨d,c⟩:u=auV (auD u)/\P (auD u):=b;grind;cases e
theorem HF1(a:AU):∀ x∈[auV a],HF x:=HF.cons (fH _) HF.nil
theorem HF2(a b:AU):∀ x∈[auV a,auV b],HF x:=HF.cons (fH _) (HF1 _)
theorem k8{X:SX}(k:X.Ok){d:Nat}{fn:Func}{args:Lh}{v:Value}(i:HF v)(h:aN X d fn args ⟨.leaf,0⟩ (λa _=>a=v)):Walk X.E fn args v:=by unfold aN at h;split at h;rename_i c j;split at h;rename_i F l;cases b:Nat.ble args.length fn.ntmps;rw[b]at h;exact h.elim;rw[b]at h;refine⟨c,F,j,b,l,(ik k (d:=d) h).mono λm n o q=>?_⟩;obtain⟨g,a,f,e⟩:=eG q;exact⟨g,a,f,by rw[e];exact .same i⟩;exact h.elim;exact h.elim
def tuV(x:Value)(e:Int):Value:=.tuple ⟨[x,.int .i64 e]⟩
def agV(s:Int)(l r:Lh):Value:=.agg ⟨[.int .i64 s,dat 1 l,dat 1 r]⟩
theorem cr_at{a:AU}(h:WfA a)(A:AH):CallAt env 27 [auV a] A (.int .i64 (chkA a)) A:=c8 ai am (fn:=f27) rfl (HF1 _) (xz h) A
end
end Go.T9
set_option maxRecDepth 100000
namespace Go.T9
open Go Go.AM Go.MK Go.HK
noncomputable section
variable {b:AU}{n x0:Nat}{δ:Nat->Nat->Nat}
theorem Bk{a b:AU}(h:OkA a)(d:OkA b)(g:CF):∀ (w:Lg) (q r:Int),inA a q->inA b r->dR (stP a b) (acP2 g a b) (q,r) w=g.f (acN a.2.1 (runW (dA a) q.toNat w)) (acN b.2.1 (runW (dA b) r.toNat w))
 | [],q,r,_,_=>rfl
 |c::w,q,r,hq,hr=>by have i:=eY h hq.1 hq.2 (b:=c%256) (Iy _ (by decide));have e:=eY d hr.1 hr.2 (b:=c%256) (Iy _ (by decide));have:=Bk h d g w (stp a.2.2 q (c%256)) (stp b.2.2 r (c%256)) i e;rw[<-oH,<-oH]at this;exact this
theorem mA{a:AU}(h:OkA a)(c:OkA b)(g:CF):dR (stP a b) (acP2 g a b) (a.1,b.1)=λw=>g.f (cw a w) (cw b w):=by funext w;rw[Bk h c g w a.1 b.1 h.st c.st];unfold cw bF;rw[IC]
theorem GD.pairs{a:AU}(h:OkA a)(e:OkA b):GD (stP a b) (inP2 a b) (caP2 a b) (fsP a b) (a.1,b.1) (reP (fsP a b) a b):=
 by
 have d:fsP a b=clsF (keyP a.2.2 b.2.2) 256:=by unfold fsP;exact Ig _
 have j:caP2 a b=clsC (keyP a.2.2 b.2.2) 256:=by unfold caP2;exact Ig _
 have f:∀ c∈fsP a b,c<256:=by rw[d];exact λc i=>eJ _ _ _ i
 have l:=ei_P h e f;generalize fsP a b=F at*;generalize caP2 a b=C at*;exact .of (key:=keyP a.2.2 b.2.2) C F j d l λk _ c m _ _ g=>CH h e k g
def prG(g:CF)(a b:AU):AU:=(0,(reP (List.range 256) a b).map (acP2 g a b),bc (scF (List.range 256) (stP a b)) (reP (List.range 256) a b) (reP (List.range 256) a b).length)
theorem RA.ofD{F:Lg}{ac:Li}{rw:La}(h:DW F ac rw)(g:F.length=256):RA (dA (0,ac,rw)) rw.length 0:=by
 refine⟨h.n0,λx d c=>?_,xx _,h.n1⟩;have a:rw[x]∈rw:=Hq d;have f:=h.row _ a;have e:c%256<rw[x].length:=by grind
 have:=h.ent _ a _ (Hq e);grind [dA,gD]
theorem AW{a:AU}(h:OkA a)(f:OkA b)(g:CF):∃ n,RA (dA (prG g a b)) n 0:=by have d:∀ c∈List.range 256,c<256:=λc j=>If.1 j;have i:(List.range 256).length=256:=IN;have e:=ei_P h f d;unfold prG;generalize List.range 256=F at*;exact⟨_,RA.ofD (dw_ei (acP2 g a b) e (gR h f _ e.nd e.inp) d (by omega)) i⟩
theorem qY{a:AU}(h:OkA a)(e:OkA b)(g:CF):cw (prG g a b)=dR (stP a b) (acP2 g a b) (a.1,b.1):=
 my (ei_P h e (F:=List.range 256) λc d=>If.1 d) _
def cjA(g:CF)(a b:AU):Li:=lsA (caP2 a b) (fsP a b) (accP g a b) (rowP a b)
def cjT(g:CF)(a b:AU):List Lg:=lsT (caP2 a b) (fsP a b) (accP g a b) (rowP a b)
def cjM(g:CF)(a b:AU):Nat:=(alkD (fsP a b) (accP g a b) (rowP a b)).mem.length
theorem Bm{a:AU}(h:OkA a)(d:OkA b)(g:CF):(cjA g a b).length=cjM g a b:=by have c:=GD.pairs h d;have e:(reP (fsP a b) a b).length<=90000:=gR h d _ c.ei.nd c.ei.inp;unfold cjA cjM lsA accP rowP aceP rweP;generalize fsP a b=F at*;generalize caP2 a b=C at*;rw[Hp];exact DF c e
theorem wh{a:AU}(h:OkA a)(d:OkA b)(g:CF){acc:Nat->Bool}(e:RA δ n x0)(c:bF δ id acc x0=λw=>g.f (cw a w) (cw b w)):cjT g a b=rfT δ acc x0/\cjA g a b=rfA δ acc x0:=by have i:=GD.pairs h d;have c:=c.trans (mA h d g).symm;unfold cjT cjA accP rowP aceP rweP;generalize fsP a b=F at*;generalize caP2 a b=C at*;exact lg i e c
theorem jn_ref{a:AU}(h:OkA a)(c:OkA b)(g:CF):cjT g a b=rfT (dA (prG g a b)) (acN (prG g a b).2.1) 0/\cjA g a b=rfA (dA (prG g a b)) (acN (prG g a b).2.1) 0:=by obtain⟨n,d⟩:=AW h c g;exact wh h c g d ((qY h c g).trans (mA h c g))
theorem Ba{acc:Nat->Bool}(a:RA δ n x0)(m:(rfA δ acc x0).length<=300):OkA (0,rfA δ acc x0,(rfT δ acc x0).map inF):=by
 have p:=a.o0 acc;have g:=a.tab acc;obtain⟨k,j⟩:=RA.tlen (δ := δ) (x0:=x0) acc;generalize rfT δ acc x0=T at*;generalize rfA δ acc x0=Ac at*;generalize (rfO δ acc x0).length=n at*;have c:∀ r∈T.map inF,r.length=256/\∀ x∈r,0<=x/\x<(n:Int):=λr a=>by obtain⟨f,i,rfl⟩:=Hn.1 a;obtain⟨h,o⟩:=g f i;refine⟨by rw[ao];exact h,λx d=>?_⟩;obtain⟨y,l,rfl⟩:=Hn.1 d;grind
 have e:(T.map inF).length=n:=by grind
 refine⟨⟨?_,?_,λr a=>?_⟩,?_,?_,?_,λr a=>(c r a).1,?_,λr a x d=>?_⟩<;>dsimp only at*;all_goals grind
theorem vZ(a:RA δ n x0)(acc:Nat->Bool):cw (0,rfA δ acc x0,(rfT δ acc x0).map inF)=bF δ id acc x0:=a.lang acc
def cjU(g:CF)(a b:AU):AU:=(0,cjA g a b,(cjT g a b).map inF)
theorem cjU_ok{a:AU}(h:OkA a)(c:OkA b)(g:CF)(k:cjM g a b<=300):OkA (cjU g a b)/\∀ w,cw (cjU g a b) w=g.f (cw a w) (cw b w):=by obtain⟨n,d⟩:=AW h c g;obtain⟨j,e⟩:=jn_ref h c g;have i:=Bm h c g;unfold cjU;rw[e]at i;rw[j,e];refine⟨Ba d (by omega),λw=>?_⟩;rw[vZ d];exact congrFun ((qY h c g).trans (mA h c g)) w
def otC(b:AU):Li:=(accS b).map λx=> !x
def otA(b:AU):Li:=lsA (caS b) (fsS b) (otC b) (rowS b)
def otT(b:AU):List Lg:=lsT (caS b) (fsS b) (otC b) (rowS b)
def otU(b:AU):AU:=(0,otA b,(otT b).map inF)
theorem ot_ref(h:OkA b):otT b=rfT (dA b) (λx=> !acN b.2.1 x) b.1.toNat/\otA b=rfA (dA b) (λx=> !acN b.2.1 x) b.1.toNat:=by
 have c:=GD.single h;have a:bF (dA b) id (λx=> !acN b.2.1 x) b.1.toNat=dR (stS b) (λk=> !acS b k) (b.1,0):=by have:=ry h;funext w;exact Il not (congrFun this w)
 have e:otC b=(reS (fsS b) b).map λk=> !acS b k:=by unfold otC accS aceS;rw[H4];rfl
 unfold otT otA;rw[e];unfold rowS rweS;generalize fsS b=F at*;generalize caS b=C at*;exact lg c (RA.of h) a
theorem otU_ok(h:OkA b):OkA (otU b)/\∀ w,cw (otU b) w= !cw b w:=by obtain⟨d,c⟩:=ot_ref h;have a:=RA.of h;have g:=a.olen (λx=> !acN b.2.1 x);have i:=h.n1;obtain⟨f,e⟩:=RA.tlen (δ :=dA b) (x0:=b.1.toNat) (λx=> !acN b.2.1 x);unfold otU;rw[d,c];refine⟨Ba a (by omega),λw=>?_⟩;rw[vZ a];rfl
end
end Go.T9
set_option maxRecDepth 1000000
namespace Go.T9
open Go Go.AM Go.MK Go.HK Go.Proofs.Tryz
noncomputable section
variable {b:AU}{g:CF}
def spPv(g:CF)(P:Value->Value->Prop)(C F:Le)(ac:Li)(rw:La):Lh->List AObj->Option (Ll×Value×List AObj)
 | [u,v,.func (.func q) ⟨[]⟩ ⟨[]⟩],[]=>some (some (q=g.id/\P u v),.pointer (some ⟨0,0,none⟩),dfB C F ac rw)
 |_,_=>none
theorem AT{P:Value->Value->Prop}{a:AU}(h:OkA a)(k:OkA b)(i:∀ u v,P u v->u=auV a/\v=auV b):∀ args A p v A',frmR noAr (spPv g P (caP2 a b) (inF (fsP a b)) (accP g a b) (rowP a b)) args A=some (p,v,A')->PH p->CallAt env 33 args A v A':=aS ai (fn:=f33) rfl λargs e p v d c f=>by unfold spPv at c;split at c;rename_i u w q;cases c;obtain⟨rfl,j⟩:q=g.id/\P u w:=f;obtain⟨rfl,rfl⟩:=i _ _ j;exact Dn g h k;cases c
theorem pn_tab:∀ args A p v A',frmR noAr (spPv g (λ_ _=>False) [] [] [] []) args A=some (p,v,A')->PH p->CallAt env 33 args A v A':=aS ai (fn:=f33) rfl λargs d p v c a e=>by unfold spPv at a;split at a;cases a;exact(And.right (show _/\False from e)).elim;cases a
def XJn(g:CF)(d:Value->Value->Prop)(C F:Le)(e:Li)(c:La)(P:Lh->Lh->Lh->Lh->Prop)(a:Li)(b:La):SX:=⟨env,[(24,bg caP caX),(33,frmR noAr (spPv g d C F e c)),(26,frmR arD (spLs P a b))],noEl,λ_=>.unroll 0⟩
def XJx(g:CF)(a:Value->Value->Prop)(C F:Le)(b:Li)(c:La)(P:Lh->Lh->Lh->Lh->Prop):SX:=⟨env,[(24,bg caP caX),(33,frmR noAr (spPv g a C F b c)),(26,frmR arD (spLx P))],noEl,λ_=>.unroll 0⟩
def jJn(K:KV)(g:CF)(i:Value->Value->Prop)(C F:Le)(j:Li)(f:La)(P:Lh->Lh->Lh->Lh->Prop)(a:Li)(b:La)(s:Int)(e:Li)(k:La)(d:Int)(h:Li)(c:La):Prop:=aN (XJn g i C F j f P a b) 2 f19 [.agg ⟨[.int .i64 s,dat 1 (blV e),dat 1 (roV k)]⟩,.agg ⟨[.int .i64 d,dat 1 (blV h),dat 1 (roV c)]⟩,clV g] ⟨.leaf,0⟩ K
def jJx(K:KV)(g:CF)(f:Value->Value->Prop)(C F:Le)(h:Li)(d:La)(P:Lh->Lh->Lh->Lh->Prop)(s:Int)(c:Li)(i:La)(b:Int)(e:Li)(a:La):Prop:=aN (XJx g f C F h d P) 2 f19 [.agg ⟨[.int .i64 s,dat 1 (blV c),dat 1 (roV i)]⟩,.agg ⟨[.int .i64 b,dat 1 (blV e),dat 1 (roV a)]⟩,clV g] ⟨.leaf,0⟩ K
def XBo(g:CF)(a b x:Value)(e:Int):SX:=⟨env,[(19,bg (sameP True [a,b,clV g]) (gc (tuV x e)))],noEl,λ_=>.unroll 0⟩
def jBo(Q:Value->Prop)(u:Int)(v w:Lh)(e s:Int)(l r:Lh)(t:Int)(m q:Lh):Prop:=aN (XBo .c1 (agV s l r) (agV t m q) (agV u v w) e) 1 f6 [agV s l r,agV t m q] ⟨.leaf,0⟩ (λx _=>Q x)
def jEi(Q:Value->Prop)(u:Int)(v w:Lh)(e s:Int)(l r:Lh)(t:Int)(m q:Lh):Prop:=aN (XBo .c2 (agV s l r) (agV t m q) (agV u v w) e) 1 f8 [agV s l r,agV t m q] ⟨.leaf,0⟩ (λx _=>Q x)
def jWo(Q:Value->Prop)(u:Int)(v w:Lh)(e s:Int)(l r:Lh)(t:Int)(m q:Lh):Prop:=aN (XBo .c3 (agV s l r) (agV t m q) (agV u v w) e) 1 f10 [agV s l r,agV t m q] ⟨.leaf,0⟩ (λx _=>Q x)
theorem NT(K:KV)(g:CF)(k:Value->Value->Prop)(C:Le)(F:Le)(f:Li)(e:La)(P:Lh->Lh->Lh->Lh->Prop)(i:Li)(j:La)(s:Int)(a:Li)(b:La)(h:Int)(d:Li)(c:La):jJn K g k C F f e P i j s a b h d c=(WfV (V_ s (blV a) (roV b))/\Sp (! decide (chkA (s,v_ a,n_ b)=0)) (Sp (! decide (chkA (s,v_ a,n_ b)=0)) (K (KP [d_ [Vi 0,p_,p_],Vi (chkA (s,v_ a,n_ b))]) (K_ (Kw (Sg (h_ s a b)) (h_ h d c)) (h_ s a b) (Q_ (h_ h d c) [Vi 0,p_,p_] 25) 5)) (HFs [P' a,S_ b,P' d,S_ c,d_ (roV e),d_ (blV f),Lw F,Lw C] (CF.id g=CF.id g/\k (V_ s (blV a) (roV b)) (V_ h (blV d) (roV c)))/\HFs [Lw C,Lw F,d_ (blV f),d_ (roV e),d_ (roV j),d_ (blV i),Lw C,Lw F,d_ (blV f),d_ (roV e)] (Ol/\Oc F f e/\P (inV C) (inV F) (blV f) (roV e))/\K (KP [d_ [Vi 0,g_ 9 0 i.length,g_ 10 0 j.length],Vi 0]) (K_ (Ns (Kw (Sg (Z_ f)) (h_ s a b)) (h_ h d c) (Kw (Sg (Z_ i)) (LN (inV C) [g_ 6 0 F.length,g_ 7 0 f.length,g_ 8 0 e.length]))) (h_ s a b) (Ns (Kw (Sg (O_ e)) (h_ h d c)) (m_ [Vi 0,g_ 9 0 i.length,g_ 10 0 j.length] 25) (Kw (Sg (O_ j)) (f_ F))) 11))) (WfV (V_ h (blV d) (roV c))/\Sp (! decide (chkA (h,v_ d,n_ c)=0)) (K (KP [d_ [Vi 0,p_,p_],Vi (chkA (h,v_ d,n_ c))]) (K_ (Kw (Sg (h_ s a b)) (h_ h d c)) (h_ s a b) (Q_ (h_ h d c) [Vi 0,p_,p_] 25) 5)) (HFs [P' a,S_ b,P' d,S_ c,d_ (roV e),d_ (blV f),Lw F,Lw C] (CF.id g=CF.id g/\k (V_ s (blV a) (roV b)) (V_ h (blV d) (roV c)))/\HFs [Lw C,Lw F,d_ (blV f),d_ (roV e),d_ (roV j),d_ (blV i),Lw C,Lw F,d_ (blV f),d_ (roV e)] (Ol/\Oc F f e/\P (inV C) (inV F) (blV f) (roV e))/\K (KP [d_ [Vi 0,g_ 9 0 i.length,g_ 10 0 j.length],Vi 0]) (K_ (Ns (Kw (Sg (Z_ f)) (h_ s a b)) (h_ h d c) (Kw (Sg (Z_ i)) (LN (inV C) [g_ 6 0 F.length,g_ 7 0 f.length,g_ 8 0 e.length]))) (h_ s a b) (Ns (Kw (Sg (O_ e)) (h_ h d c)) (m_ [Vi 0,g_ 9 0 i.length,g_ 10 0 j.length] 25) (Kw (Sg (O_ j)) (f_ F))) 11)))):=by kernel_rfl
theorem wj:type_of%(by have h:=@NT;revert h;delta Ol Oc b_ d_ f_ g_ h_ l_ m_ n_ p_ v_ K_ O_ Q_ S_ V_ Z_ P' Kw KP Lw LN;exact id):=@NT
theorem NU(K:KV)(g:CF)(i:Value->Value->Prop)(C:Le)(F:Le)(f:Li)(e:La)(P:Lh->Lh->Lh->Lh->Prop)(s:Int)(a:Li)(b:La)(h:Int)(d:Li)(c:La):jJx K g i C F f e P s a b h d c=(WfV (V_ s (blV a) (roV b))/\Sp (! decide (chkA (s,v_ a,n_ b)=0)) (Sp (! decide (chkA (s,v_ a,n_ b)=0)) (K (KP [d_ [Vi 0,p_,p_],Vi (chkA (s,v_ a,n_ b))]) (K_ (Kw (Sg (h_ s a b)) (h_ h d c)) (h_ s a b) (Q_ (h_ h d c) [Vi 0,p_,p_] 25) 5)) (HFs [P' a,S_ b,P' d,S_ c,d_ (roV e),d_ (blV f),Lw F,Lw C] (CF.id g=CF.id g/\i (V_ s (blV a) (roV b)) (V_ h (blV d) (roV c)))/\HFs [Lw C,Lw F,d_ (blV f),d_ (roV e),Lw C,Lw F,d_ (blV f),d_ (roV e)] (Ol/\Oc F f e/\P (inV C) (inV F) (blV f) (roV e))/\K (KP [d_ [Vi 0,p_,p_],Vi 3]) (K_ (Ns (Kw (Sg (Z_ f)) (h_ s a b)) (h_ h d c) (Sg (LN (inV C) [g_ 6 0 F.length,g_ 7 0 f.length,g_ 8 0 e.length]))) (h_ s a b) (Ns (Kw (Sg (O_ e)) (h_ h d c)) X_ (Lp F)) 9))) (WfV (V_ h (blV d) (roV c))/\Sp (! decide (chkA (h,v_ d,n_ c)=0)) (K (KP [d_ [Vi 0,p_,p_],Vi (chkA (h,v_ d,n_ c))]) (K_ (Kw (Sg (h_ s a b)) (h_ h d c)) (h_ s a b) (Q_ (h_ h d c) [Vi 0,p_,p_] 25) 5)) (HFs [P' a,S_ b,P' d,S_ c,d_ (roV e),d_ (blV f),Lw F,Lw C] (CF.id g=CF.id g/\i (V_ s (blV a) (roV b)) (V_ h (blV d) (roV c)))/\HFs [Lw C,Lw F,d_ (blV f),d_ (roV e),Lw C,Lw F,d_ (blV f),d_ (roV e)] (Ol/\Oc F f e/\P (inV C) (inV F) (blV f) (roV e))/\K (KP [d_ [Vi 0,p_,p_],Vi 3]) (K_ (Ns (Kw (Sg (Z_ f)) (h_ s a b)) (h_ h d c) (Sg (LN (inV C) [g_ 6 0 F.length,g_ 7 0 f.length,g_ 8 0 e.length]))) (h_ s a b) (Ns (Kw (Sg (O_ e)) (h_ h d c)) X_ (Lp F)) 9)))):=by kernel_rfl
theorem jJx_nf:type_of%(by have h:=@NU;revert h;delta Ol Oc b_ d_ f_ g_ h_ l_ m_ n_ p_ v_ K_ O_ Q_ S_ V_ X_ Z_ P' Kw KP Lp Lw LN;exact id):=@NU
theorem jBo_nf(Q:Value->Prop)(u:Int)(v w:Lh)(e s:Int)(l r:Lh)(t:Int)(m q:Lh):jBo Q u v w e s l r t m q=((True/\[Value.agg (Array.mk [Vi s,Vd 1 l,Vd 1 r]),Value.agg (Array.mk [Vi t,Vd 1 m,Vd 1 q]),Value.func (Go.Fn.func 20) ⟨[]⟩ ⟨[]⟩]=[Value.agg (Array.mk [Vi s,Vd 1 l,Vd 1 r]),Value.agg (Array.mk [Vi t,Vd 1 m,Vd 1 q]),Value.func (Go.Fn.func 20) ⟨[]⟩ ⟨[]⟩])/\Q (Value.tuple (Array.mk [Value.agg (Array.mk [Vi u,Vd 1 v,Vd 1 w]),Vi e]))):=by kernel_rfl
theorem jEi_nf(Q:Value->Prop)(u:Int)(v w:Lh)(e s:Int)(l r:Lh)(t:Int)(m q:Lh):jEi Q u v w e s l r t m q=((True/\[Value.agg (Array.mk [Vi s,Vd 1 l,Vd 1 r]),Value.agg (Array.mk [Vi t,Vd 1 m,Vd 1 q]),Value.func (Go.Fn.func 22) ⟨[]⟩ ⟨[]⟩]=[Value.agg (Array.mk [Vi s,Vd 1 l,Vd 1 r]),Value.agg (Array.mk [Vi t,Vd 1 m,Vd 1 q]),Value.func (Go.Fn.func 22) ⟨[]⟩ ⟨[]⟩])/\Q (Value.tuple (Array.mk [Value.agg (Array.mk [Vi u,Vd 1 v,Vd 1 w]),Vi e]))):=by kernel_rfl
theorem jWo_nf(Q:Value->Prop)(u:Int)(v w:Lh)(e s:Int)(l r:Lh)(t:Int)(m q:Lh):jWo Q u v w e s l r t m q=((True/\[Value.agg (Array.mk [Vi s,Vd 1 l,Vd 1 r]),Value.agg (Array.mk [Vi t,Vd 1 m,Vd 1 q]),Value.func (Go.Fn.func 23) ⟨[]⟩ ⟨[]⟩]=[Value.agg (Array.mk [Vi s,Vd 1 l,Vd 1 r]),Value.agg (Array.mk [Vi t,Vd 1 m,Vd 1 q]),Value.func (Go.Fn.func 23) ⟨[]⟩ ⟨[]⟩])/\Q (Value.tuple (Array.mk [Value.agg (Array.mk [Vi u,Vd 1 v,Vd 1 w]),Vi e]))):=by kernel_rfl
theorem zu{a:AU}(h:OkA a)(d:OkA b)(g:CF):LsOk (caP2 a b) (fsP a b) (accP g a b) (rowP a b):=by have c:=GD.pairs h d;have j:(caP2 a b).length=256:=jr _ _;have i:∀ x∈caP2 a b,0<=x:=m9 _ _;have f:(fsP a b).length<=256:=eK _ _;have e:(reP (fsP a b) a b).length<=90000:=gR h d _ c.ei.nd c.ei.inp;exact c.ls (ac:=acP2 g a b) e j i f
def cjI(g:CF)(a b:AU):AU×Int:=bif decide (chkA a=0)then(bif decide (chkA b=0)then(bif decide (cjM g a b<=300)then(cjU g a b,0)else(auN,3))else(auN,chkA b))else(auN,chkA a)
theorem jn0{a:AU}(h:chkA a=0)(d:chkA b=0)(c:cjM g a b<=300):cjI g a b=(cjU g a b,0):=by grind [cjI,ID]
theorem jn1{a:AU}(h:chkA a=0)(d:chkA b=0)(c:¬ cjM g a b<=300):cjI g a b=(auN,3):=by grind [cjI,ID,IE]
theorem jn2{a:AU}(h:chkA a=0)(c:¬ chkA b=0):cjI g a b=(auN,chkA b):=by grind [cjI,ID,IE]
theorem jn3{a:AU}(h:¬ chkA a=0):cjI g a b=(auN,chkA a):=by grind [cjI,IE]
theorem XJn_ok{a:AU}(h:OkA a)(f:OkA b)(g:CF):(XJn g (λu v=>u=auV a/\v=auV b) (caP2 a b) (inF (fsP a b)) (accP g a b) (rowP a b) (LsP (caP2 a b) (fsP a b) (accP g a b) (rowP a b) (cjM g a b<=300)) (cjA g a b) ((cjT g a b).map inF)).Ok:=by have d:=AT (g:=g) (P:=λu v=>u=auV a/\v=auV b) h f (λ_ _ e=>e);have c:=Bh (caP2 a b) (fsP a b) (accP g a b) (rowP a b);exact⟨ai,aD,am,.cons lL (.cons d (.cons c .nil))⟩
theorem XJx_ok{a:AU}(h:OkA a)(f:OkA b)(g:CF):(XJx g (λu v=>u=auV a/\v=auV b) (caP2 a b) (inF (fsP a b)) (accP g a b) (rowP a b) (LsP (caP2 a b) (fsP a b) (accP g a b) (rowP a b) (300<cjM g a b))).Ok:=by have d:=AT (g:=g) (P:=λu v=>u=auV a/\v=auV b) h f (λ_ _ e=>e);have c:=lx_tab (caP2 a b) (fsP a b) (accP g a b) (rowP a b);exact⟨ai,aD,am,.cons lL (.cons d (.cons c .nil))⟩
theorem BU(g:CF):(XJn g (λ_ _=>False) [] [] [] [] (λ_ _ _ _=>False) [] []).Ok:=⟨ai,aD,am,.cons lL (.cons pn_tab (.cons Bi .nil))⟩
theorem FC{d B2:Nat}(A:AH){a:Li}{c:La}(f:A.t.get d=some (groB a))(e:A.t.get B2=some (groR c)):Frz A (.tuple ⟨[.agg ⟨[.int .i64 0,groS d a.length,groS B2 c.length]⟩,.int .i64 0]⟩) (auE (0,a,c) 0):=
 .tuple (.cons (.agg (.cons (.same (HFi _ _)) (.cons (frzG f (by rw[aT]) (oneB _) (ax _)) (.cons (frzG e (by rw[aG]) (oneR _) (aq _)) .nil)))) (.cons (.same (HFi _ _)) .nil))
theorem frzX(A:AH):Frz A (.tuple ⟨[.agg ⟨[.int .i64 0,nilS,nilS]⟩,.int .i64 3]⟩) (auE auN 3):=frzN A 3
theorem DR(g:CF){a:AU}(r:WfA a)(p:WfA b):Walk env f19 [auV a,auV b,clV g] (auE (cjI g a b).1 (cjI g a b).2):=by have l:=gC r;have n:=gC p;by_cases h:chkA a=0;by_cases i:chkA b=0;have m:=dq r h;have f:=dq p i;have o:=zu m f g;by_cases c:cjM g a b<=300;rw[jn0 h i c];have k:=XJn_ok m f g;have c:(alkD (fsP a b) (accP g a b) (rowP a b)).mem.length<=300:=c;have s:cjU g a b=(0,cjA g a b,(cjT g a b).map inF):=rfl;rw[s];generalize cjA g a b=lv at*;generalize (cjT g a b).map inF=lr at*;unfold cjM at k;generalize caP2 a b=C at*;generalize fsP a b=F at*;generalize accP g a b=ac at*;generalize rowP a b=rw at*;refine frzR k (d:=2) ?_;refine(wj (λe j=>Frz j e (auE (0,lv,lr) 0)) g _ C (inF F) ac rw _ lv lr a.1 a.2.1 a.2.2 b.1 b.2.1 b.2.2).mpr ?_;rw[bf,bd,bf,bd];refine⟨l,Sp.intro (λq=>absurd h (by simpa using q)) (λ_=>⟨n,Sp.intro (λq=>absurd i (by simpa using q)) (λ_=>?_)⟩)⟩;refine⟨⟨.dat (ax _),.dat (aq _),.dat (ax _),.dat (aq _),aw _,au _,ab _,ab _,rfl,rfl,rfl⟩,⟨ab _,ab _,au _,aw _,aw _,au _,ab _,ab _,au _,aw _,⟨⟨rfl,rfl,rfl⟩,⟨by rw[af],by rw[aT],by rw[aG]⟩,rfl,⟨rfl,rfl,rfl⟩,o,c⟩⟩,FC _ rfl rfl⟩;rw[jn1 h i c];have k:=XJx_ok m f g;have c:300<(alkD (fsP a b) (accP g a b) (rowP a b)).mem.length:=Nat.lt_of_not_le c;unfold cjM at k;generalize caP2 a b=C at*;generalize fsP a b=F at*;generalize accP g a b=ac at*;generalize rowP a b=rw at*;refine frzR k (d:=2) ?_;refine(jJx_nf (λe j=>Frz j e (auE auN 3)) g _ C (inF F) ac rw _ a.1 a.2.1 a.2.2 b.1 b.2.1 b.2.2).mpr ?_;rw[bf,bd,bf,bd];refine⟨l,Sp.intro (λq=>absurd h (by simpa using q)) (λ_=>⟨n,Sp.intro (λq=>absurd i (by simpa using q)) (λ_=>?_)⟩)⟩;exact⟨⟨.dat (ax _),.dat (aq _),.dat (ax _),.dat (aq _),aw _,au _,ab _,ab _,rfl,rfl,rfl⟩,⟨ab _,ab _,au _,aw _,ab _,ab _,au _,aw _,⟨⟨rfl,rfl,rfl⟩,⟨by rw[af],by rw[aT],by rw[aG]⟩,rfl,⟨rfl,rfl,rfl⟩,o,c⟩⟩,frzX _⟩;rw[jn2 h i];refine frzR (BU g) (d:=2) ?_;refine(wj (λe j=>Frz j e (auE auN (chkA b))) g _ [] [] [] [] _ [] [] a.1 a.2.1 a.2.2 b.1 b.2.1 b.2.2).mpr ?_;rw[bf,bd,bf,bd];exact⟨l,Sp.intro (λq=>absurd h (by simpa using q)) (λ_=>⟨n,Sp.intro (λ_=>frzN _ _) (λq=>absurd (by simpa using q) i)⟩)⟩;rw[jn3 h];refine frzR (BU g) (d:=2) ?_;refine(wj (λe j=>Frz j e (auE auN (chkA a))) g _ [] [] [] [] _ [] [] a.1 a.2.1 a.2.2 b.1 b.2.1 b.2.2).mpr ?_;rw[bf,bd,bf,bd];exact⟨l,Sp.intro (λ_=>Sp.intro (λ_=>frzN _ _) (λq=>absurd (by simpa using q) h)) (λq=>absurd (by simpa using q) h)⟩
def aeW(f:AU->AU->AU×Int)(a b:AU):Value:=auE (f a b).1 (f a b).2
theorem GP(g:CF){a:AU}(e:WfA a)(d:WfA b):(XBo g (auV a) (auV b) (auV (cjI g a b).1) (cjI g a b).2).Ok:=⟨ai,aD,am,.cons (jR λ_ A=>uw ai (fn:=f19) rfl (λx c=>by simp only[HE,Jn,J9]at c;rcases c with rfl|rfl|rfl;exact .inl (fH _);exact .inl (fH _);exact .inr ⟨_,rfl⟩) (DR g e d) A) .nil⟩
theorem GO(a b:AU)(e:WfA a)(c:WfA b):Walk env f6 [auV a,auV b] (aeW (cjI .c1) a b):=k8 (GP .c1 e c) (d:=1) (i5 _ _) ((jBo_nf _ (cjI .c1 a b).1.1 _ _ (cjI .c1 a b).2 a.1 _ _ b.1 _ _).mpr ⟨⟨trivial,rfl⟩,rfl⟩)
theorem Gi(a b:AU)(e:WfA a)(c:WfA b):Walk env f8 [auV a,auV b] (aeW (cjI .c2) a b):=k8 (GP .c2 e c) (d:=1) (i5 _ _) ((jEi_nf _ (cjI .c2 a b).1.1 _ _ (cjI .c2 a b).2 a.1 _ _ b.1 _ _).mpr ⟨⟨trivial,rfl⟩,rfl⟩)
theorem Ce(a b:AU)(e:WfA a)(c:WfA b):Walk env f10 [auV a,auV b] (aeW (cjI .c3) a b):=k8 (GP .c3 e c) (d:=1) (i5 _ _) ((jWo_nf _ (cjI .c3 a b).1.1 _ _ (cjI .c3 a b).2 a.1 _ _ b.1 _ _).mpr ⟨⟨trivial,rfl⟩,rfl⟩)
def XOh(d:Value->Prop)(C F:Le)(e:Li)(c:La)(P:Lh->Lh->Lh->Lh->Prop)(a:Li)(b:La):SX:=⟨env,[(24,bg caP caX),(25,frmR noAr (spSv d C F e c)),(26,frmR arD (spLs P a b))],{elB with app:=true,gm:=λ_=>true},λ_=>.autoN [] [] [] [2,5,19,20,21]⟩
def jOh(K:KV)(e:Value->Prop)(C F:Le)(f:Li)(d:La)(P:Lh->Lh->Lh->Lh->Prop)(a:Li)(b:La)(s:Int)(c:Li)(g:La):Prop:=aN (XOh e C F f d P a b) 2 f12 [.agg ⟨[.int .i64 s,dat 1 (blV c),dat 1 (roV g)]⟩] ⟨.leaf,0⟩ K
theorem NV(K:KV)(e:Value->Prop)(C:Le)(F:Le)(a:Li)(c:La)(P:Lh->Lh->Lh->Lh->Prop)(f:Li)(g:La)(s:Int)(b:Li)(d:La):jOh K e C F a c P f g s b d=(WfV (V_ s (blV b) (roV d))/\Sp (! decide (chkA (s,v_ b,n_ d)=0)) (K (KP [d_ [Vi 0,p_,p_],Vi (chkA (s,v_ b,n_ d))]) (AH.mk (Kw (Sg X_) (h_ s b d)) 2)) (HFs [P' b,S_ d,d_ (roV c),d_ (blV a),Lw F,Lw C] (e (V_ s (blV b) (roV d)))/\F_ C/\Kt (blV a)/\F_ F/\Kt (roV c)/\LAtZ (XOh e C F a c P f g) 2 f12.ntmps (AH.mk Lf 0) (ay f12) [1,1,1,0,1,0] (finK (SX.E (XOh e C F a c P f g)) f12.results.toList K) (No (No (No Lf (H_ (g_ 2 0 a.length))) (Ns Lf (c_ 1 0) (H_ (Vi 0)))) (Ns (No Lf (H_ (Lr a.length))) i_ Lf)) (K_ (Kw (Lp F) (LN (inV C) [g_ 3 0 F.length,g_ 2 0 a.length,g_ 4 0 c.length])) X_ (Kw (Sg (O_ c)) (Z_ a)) 5))):=by kernel_rfl
theorem Bp:type_of%(by have h:=@NV;revert h;delta b_ c_ d_ f_ g_ h_ i_ l_ m_ n_ p_ v_ F_ H_ I_ K_ O_ S_ V_ X_ Z_ P' Kt Kw KP Lp Lr Lw LN;exact id):=@NV
def frOh(n i:Nat):T Value:=(Nd (Nd (Nd Lf none (Nd (Nd Lf (some (groS 2 n)) Lf) none Lf)) none (Nd Lf (some (.pointer (some ⟨1,0,none⟩))) (Nd (Nd Lf (some (.int .i64 i)) Lf) none Lf))) none (Nd (Nd Lf none (Nd (Nd Lf (some (.int .i64 n)) Lf) none Lf)) (some (.pointer (some ⟨0,0,none⟩))) Lf))
def hOh(C F:Le)(a:La)(l:Li)(n:Nat):AH:=⟨(Nd (Nd (Nd Lf (some (groI F)) Lf) (some (dfO C [groS 3 F.length,groS 2 n,groS 4 a.length])) Lf) (some (.cells [.int .i64 0,nilS,nilS] 25)) (Nd (Nd Lf (some (groR a)) Lf) (some (groB l)) Lf)),5⟩
def kFinOh(K:KV)(d:Value->Prop)(C F:Le)(e:Li)(c:La)(P:Lh->Lh->Lh->Lh->Prop)(a:Li)(b:La):KX:=finK (XOh d C F e c P a b).E (f12.results).toList K
def jOhL(K:KV)(f:KF)(d:Value->Prop)(C F:Le)(e:Li)(a:La)(P:Lh->Lh->Lh->Lh->Prop)(b:Li)(c:La)(l:Li)(n i:Nat):Prop:=aI (XOh d C F e a P b c) 2 (Func.ntmps f12) ⟨.leaf,0⟩ (ay f12) [1,1,1,0,1,0] (kFinOh K d C F e a P b c) [] [] [] [2,5,19,20,21] f (frOh n i) (hOh C F a l n)
abbrev OO(a:Nat)(b:Nat):Prop:=(0<=(a:Int)/\(a:Int)<(b:Int))
theorem NW(K:KV)(d:KF)(e:Value->Prop)(C:Le)(F:Le)(f:Li)(a:La)(P:Lh->Lh->Lh->Lh->Prop)(b:Li)(c:La)(l:Li)(n i:Nat):jOhL K d e C F f a P b c l n i=(Sp (decide ((i:Int)<(n:Int))) (OO i n/\nth (blV l) i=some (Lt (blV l) i)/\OO i n/\i<List.length (blV l)/\F_ C/\Kt (List.set (blV l) i (Value.bool ! az (blV l) i))/\F_ F/\Kt (roV a)/\d (No (No (No Lf (H_ (g_ 2 0 n))) (Ns Lf (c_ 1 0) (No (x_ ((i:Int)+1)) Lf))) (Ns (No Lf (H_ (Vi n))) i_ Lf)) (K_ (Kw (Lp F) (LN (inV C) [g_ 3 0 F.length,g_ 2 0 n,g_ 4 0 a.length])) X_ (Kw (Sg (O_ a)) (l_ (List.set (blV l) i (Value.bool ! az (blV l) i)) 4)) 5)) (HFs [Lw C,Lw F,d_ (blV l),d_ (roV a),d_ (roV c),d_ (blV b),Lw C,Lw F,d_ (blV l),d_ (roV a)] (Ol/\(List.length F=List.length (inV F)/\n=List.length (blV l)/\List.length a=List.length (roV a))/\P (inV C) (inV F) (blV l) (roV a))/\K (KP [d_ [Vi 0,g_ 5 0 b.length,g_ 6 0 c.length],Vi 0]) (K_ (Ns (Lp F) (LN (inV C) [g_ 3 0 F.length,g_ 2 0 n,g_ 4 0 a.length]) (Sg (Z_ b))) (m_ [Vi 0,g_ 5 0 b.length,g_ 6 0 c.length] 25) (Ns (Sg (O_ a)) (Z_ l) (Sg (O_ c))) 7))):=by kernel_rfl
theorem Ea:type_of%(by have h:=@NW;revert h;delta OO Ol b_ c_ d_ f_ g_ i_ l_ m_ p_ x_ F_ H_ K_ O_ X_ Z_ Kt Kw KP Lp Lt Lw LN;exact id):=@NW
def otI(b:AU):AU×Int:=bif decide (chkA b=0)then(otU b,0)else(auN,chkA b)
theorem ot0(h:chkA b=0):otI b=(otU b,0):=by grind [otI,ID]
theorem ot1(h:¬ chkA b=0):otI b=(auN,chkA b):=by grind [otI,IE]
def flp(a:Li)(i:Nat):Li:=(a.take i).map (λx=> !x)++a.drop i
theorem FY(ac:Li)(i:Nat):(flp ac i).length=ac.length:=by unfold flp;simp;omega
theorem BA{ac:Li}{i:Nat}(h:i<ac.length):∃ c:i<(flp ac i).length,(flp ac i)[i]=ac[i]/\(flp ac i).set i (!ac[i])=flp ac (i+1):=by
 have a:((ac.take i).map λx=> !x).length=i:=by simp;omega
 have e:flp ac i=(ac.take i).map (λx=> !x)++ac[i]::ac.drop (i+1):=by unfold flp;rw[H7 h]
 refine⟨by rw[FY];exact h,?_,?_⟩;grind;rw[e,JI _ _ (by omega),a,IX];unfold flp;rw[HC h,HD,Im];rfl
theorem xb(ac:Li):flp ac ac.length=ac.map λx=> !x:=by unfold flp;simp
theorem XOh_ok(h:OkA b):(XOh (λu=>u=auV b) (caS b) (inF (fsS b)) (accS b) (rowS b) (LsP (caS b) (fsS b) (otC b) (rowS b) ((alkD (fsS b) (otC b) (rowS b)).mem.length<=300)) (otA b) ((otT b).map inF)).Ok:=
 ⟨ai,aD,am,.cons lL (.cons (sv_tab h) (.cons (Bh (caS b) (fsS b) (otC b) (rowS b)) .nil))⟩
theorem Hi:(XOh (λ_=>False) [] [] [] [] (λ_ _ _ _=>False) [] []).Ok:=⟨ai,aD,am,.cons lL (.cons sn_tab (.cons Bi .nil))⟩
theorem Dp(j:WfA b):Walk env f12 [auV b] (auE (otI b).1 (otI b).2):=by
 by_cases h:chkA b=0;have o:=dq j h;rw[ot0 h];obtain⟨a,r⟩:=si_lsG o (λk=> !acS b k);have e:(reS (fsS b) b).map (λk=> !acS b k)=otC b:=by simp_all [otC,accS,aceS,H4]
 rw[e]at a r;have t:=XOh_ok o;have s:otC b=(accS b).map λx=> !x:=rfl;have p:otU b=(0,otA b,(otT b).map inF):=rfl;rw[p];clear p e;generalize otA b=lv at*;generalize (otT b).map inF=lr at*;generalize otC b=cc at*;generalize caS b=C at*;generalize fsS b=F at*;generalize rowS b=rw at*;generalize accS b=ac at*;refine frzR t (d:=2) ((Bp (λc n=>Frz n c (auE (0,lv,lr) 0)) _ C (inF F) ac rw _ lv lr b.1 b.2.1 b.2.2).mpr ?_);rw[bf,bd];refine⟨gC j,Sp.intro (λq=>absurd h (by simpa using q)) (λ_=>⟨⟨.dat (ax _),.dat (aq _),aw _,au _,ab _,ab _,rfl⟩,ab _,au _,ab _,aw _,?_⟩)⟩;refine LAtZ.stepF t [] [] [] [2,5,19,20,21] (by kernel_rfl) (λm G A=>∃ i:Nat,G=frOh ac.length i/\A=hOh C (inF F) rw (flp ac i) ac.length/\i+m=ac.length) ?_ (k:=ac.length) ⟨0,rfl,rfl,by omega⟩;rintro m G A ⟨i,rfl,rfl,v⟩;refine(Ea _ _ _ C (inF F) ac rw _ lv lr (flp ac i) ac.length i).mpr (Sp.intro (λq=>?_) (λq=>?_));have q:=odt q;have w:i<ac.length:=by omega
 have y:ac.length<9223372036854775807:=by have D:=a.al.al;have B:=a.al.rk.m;grind
 obtain⟨l,u,z⟩:=BA w;rw[bw l,u,blV_set,z,aF (x:=(i:Int)+1) (by omega) (by omega)];refine⟨⟨by omega,q⟩,by rw[<-u];exact dj l,⟨by omega,q⟩,by rw[aT];exact l,ab _,au _,ab _,aw _,m-1,by omega,i+1,rfl,rfl,by omega⟩;have q:=odf q;obtain rfl:i=ac.length:=by omega
 rw[xb,<-s];have f:ac.length=cc.length:=by rw[s,Hp]
 exact⟨⟨ab _,ab _,au _,aw _,aw _,au _,ab _,ab _,au _,aw _,⟨⟨rfl,rfl,rfl⟩,⟨by rw[af],by rw[aT];exact f,by rw[aG]⟩,rfl,⟨rfl,rfl,rfl⟩,a,r⟩⟩,FC _ rfl rfl⟩;rw[ot1 h];refine frzR Hi (d:=2) ?_;refine(Bp (λc n=>Frz n c (auE auN (chkA b))) _ [] [] [] [] _ [] [] b.1 b.2.1 b.2.2).mpr ?_;rw[bf,bd];exact⟨gC j,Sp.intro (λ_=>frzN _ _) (λq=>absurd (by simpa using q) h)⟩
end
end Go.T9
namespace Go.T9
open Go Go.AM Go.MK Go.HK
noncomputable section
theorem TOk.of{a:AU}(h:OkA a):TOk a:=by have f:=h.n1;have e:=h.acc;have d:=h.st;refine⟨by omega,by omega,by omega,λr b=>⟨by rw[h.row r b];decide,λx c=>?_⟩⟩;have:=h.ent r b x c;omega
theorem wfN:WfA auN:=⟨by decide,by decide,λr a=>by cases a⟩
theorem xK(g:CF){a b:AU}(d:WfA a)(c:WfA b):(OkA a/\OkA b/\cjM g a b<=300/\cjI g a b=(cjU g a b,0))∨∃ e,cjI g a b=(auN,e)/\0<e/\e<301:=by
 have j:=kD a;have i:=kD b;by_cases h:chkA a=0;· by_cases f:chkA b=0;all_goals grind [cjM,dq,jn0,jn1,jn2]
 grind [jn3]
theorem ng(g:CF){a b:AU}(i:WfA a)(f:WfA b):WfA (cjI g a b).1/\TOk (cjI g a b).1/\0<=(cjI g a b).2/\(cjI g a b).2<301:=by rcases xK g i f with⟨h,d,j,e⟩|⟨x,e,k,d⟩;rw[e];obtain⟨c,_⟩:=cjU_ok h d g j;exact⟨c.wf,.of c,Int.le_refl 0,show(0:Int)<301 by decide⟩;grind [wfN,auN_T]
theorem vy{b:AU}(a:WfA b):(OkA b/\otI b=(otU b,0))∨∃ e,otI b=(auN,e)/\0<e/\e<301:=by grind [kD,chkA,dq,ot0,ot1]
theorem yX{b:AU}(c:WfA b):WfA (otI b).1/\TOk (otI b).1/\0<=(otI b).2/\(otI b).2<301:=by rcases vy c with⟨h,e⟩|⟨x,e,f,d⟩;rw[e];obtain⟨a,_⟩:=otU_ok h;exact⟨a.wf,.of a,Int.le_refl 0,show(0:Int)<301 by decide⟩;grind [wfN,auN_T]
end
end Go.T9
namespace Go.T9
open Go Go.AM Go.MK Go.Proofs.Tryz
noncomputable section
def cmbI(k:Int)(x y:Bool):Bool:=bif decide (k=1)then(bif x then y else false)else bif decide (k=2)then(bif x then true else y)else(bif x then !y else false)
def XCb:SX:=⟨env,[],noEl,λ_=>.unroll 0⟩
theorem XCb_ok:XCb.Ok:=⟨ai,aD,am,.nil⟩
def jCb(K:KV)(k:Int)(x y:Bool):Prop:=aN XCb 1 f73 [.int .i64 k,.bool x,.bool y] ⟨.leaf,0⟩ K
def cbX:Lh->Lj
 | [.int .i64 k,.bool x,.bool y]=>some (.bool (cmbI k x y))
 |_=>none
set_option maxHeartbeats 1000000
theorem jCb_nf(K:KV)(k:Int)(x:Bool)(y:Bool):jCb K k x y=(Sp (decide (k=1)) (Sp x (K (Value.bool y) (AH.mk Lf 0)) (K (Value.bool false) (AH.mk Lf 0))) (Sp (decide (k=2)) (Sp x (K (Value.bool true) (AH.mk Lf 0)) (K (Value.bool y) (AH.mk Lf 0))) (Sp x (K (Value.bool !y) (AH.mk Lf 0)) (K (Value.bool false) (AH.mk Lf 0))))):=by kernel_rfl
structure GA (a:AU):Prop where
 n0:0<a.2.2.length
 n1:a.2.2.length<=90000
 acc:a.2.1.length=a.2.2.length
 row:∀ r∈a.2.2,r.length=256
 st:0<=a.1/\a.1<a.2.2.length
 ent:∀ r∈a.2.2,∀x∈r,0<=x/\x<a.2.2.length
theorem GI(k:Int)(x y:Bool):Walk env f73 [.int .i64 k,.bool x,.bool y] (.bool (cmbI k x y)):=by refine eP XCb_ok (d:=1) (HFb _) ((jCb_nf _ k x y).mpr ?_);unfold cmbI;refine Sp.intro (λh=>?_) (λh=>?_);rw[h];cases x<;>exact rfl;rw[h];refine Sp.intro (λh=>?_) (λh=>?_);rw[h];cases x<;>exact rfl;rw[h];cases x<;>exact rfl
theorem cb_tab:∀ args A p v A',bg (λ_=>none) cbX args A=some (p,v,A')->PH p->CallAt env 73 args A v A':=dh ai am (fn:=f73) rfl λargs v h a=>by unfold cbX at h;grind [osI,HFi,HFb,GI]
def elPr:El:={El.of (λ_ t els i=>bif inL t [40,41,45,46]then some (.agg ⟨[.int .i64 (prAt els i).1,.int .i64 (prAt els i).2]⟩)else bif inL t [56,64]then some (.func (.yield 1) ⟨ae els i⟩ ⟨[]⟩)else bif inL t [103,108]then some (.bool (az els i))else some (.int .i64 (aa els i)))with app:=true,gm:=λ_=>true,ml:=λ_ es k=>some (.int .i64 (mgP es k),mhP es k),mu:=λ_ es _ k v=>some (msP es k v,mnP es k v)}
def nsPr:List (NPos×TypeId×Nat):=[(.slot 8,78,2),(.cell 9 1,4,1),(.cell 9 2,49,1)]
def XPr:SX:=⟨env,[(73,bg (λ_=>none) cbX)],elPr,λk=>bif Nat.beq k 5 then .autoN nsPr [.cell 9 2] [] [2,3,4,6,7,8,9,10]else .autoN [] [] [] [2,3,4,6,7,8,9,10,11,12,13,14]⟩
theorem yg:XPr.Ok:=⟨ai,aD,am,.cons cb_tab .nil⟩
def v9(K:KV):KX:=finK XPr.E (f41.results).toList K
def zAu:AObj:=.cells [.int .i64 0,nilS,nilS] 25
def hPrL(a:List PR)(c:Li)(b:La)(s:Int)(f:Li)(h:La)(e:Int)(g:Li)(d:La):AH:=⟨(Nd (Nd (Nd (Nd Lf (some (groR b)) Lf) (some (.map (enP (mkM a)) a.length)) Lf) (some (auC e g d)) (Nd Lf (some (.cells [.int .i64 0,groS 6 c.length,groS 7 b.length] 25)) Lf)) (some (auC s f h)) (Nd (Nd Lf (some (.gro (prs a) [] 78)) Lf) (some (zAu)) (Nd Lf (some (groB c)) Lf))),8⟩
def hPrI(a:List PR)(c:Li)(b:La)(r:Le)(s:Int)(f:Li)(h:La)(e:Int)(g:Li)(d:La):AH:=⟨(Nd (Nd (Nd (Nd Lf (some (groB c)) Lf) (some (.map (enP (mkM a)) a.length)) Lf) (some (auC e g d)) (Nd Lf (some (.cells [.int .i64 0,groS 7 c.length,groS 8 b.length] 25)) Lf)) (some (auC s f h)) (Nd (Nd (Nd Lf (some (groR b)) Lf) (some (.gro (prs a) [] 78)) Lf) (some (zAu)) (Nd Lf (some (groI r)) Lf))),9⟩
def FH(a:Int)(n i:Nat):T Value:=(Nd (Nd (Nd (Nd Lf (some (.map (some 3))) Lf) (some (.pointer (some ⟨0,0,none⟩))) Lf) none (Nd (Nd Lf (some (.pointer (some ⟨5,0,none⟩))) Lf) none Lf)) none (Nd (Nd (Nd Lf (some (groP 4 n)) Lf) (some (.pointer (some ⟨1,0,none⟩))) Lf) (some (.int .i64 a)) (Nd (Nd Lf (some (.int .i64 i)) Lf) (some (.pointer (some ⟨2,0,none⟩))) Lf)))
def FI(a:Int)(n i:Nat)(x y:Int)(c:Nat):T Value:=(Nd (Nd (Nd (Nd Lf (some (.map (some 3))) Lf) (some (.pointer (some ⟨0,0,none⟩))) (Nd Lf (some (.int .i64 x)) Lf)) none (Nd (Nd Lf (some (.pointer (some ⟨5,0,none⟩))) Lf) none (Nd Lf (some (groS 6 256)) Lf))) none (Nd (Nd (Nd Lf (some (groP 4 n)) Lf) (some (.pointer (some ⟨1,0,none⟩))) (Nd Lf (some (.int .i64 y)) Lf)) (some (.int .i64 a)) (Nd (Nd Lf (some (.int .i64 i)) Lf) (some (.pointer (some ⟨2,0,none⟩))) (Nd Lf (some (.int .i64 c)) Lf))))
def jPr(K:KV)(f:Int)(s:Int)(d:Li)(c:La)(b:Int)(e:Li)(a:La):Prop:=aN XPr 1 f41 [.agg ⟨[.int .i64 s,dat 1 (blV d),dat 1 (roV c)]⟩,.agg ⟨[.int .i64 b,dat 1 (blV e),dat 1 (roV a)]⟩,.int .i64 f] ⟨.leaf,0⟩ K
def jPrL(K:KV)(f:KF)(k:Int)(a:List PR)(j:Li)(g:La)(s:Int)(d:Li)(c:La)(e:Int)(h:Li)(b:La)(i:Nat):Prop:=aI XPr 1 (Func.ntmps f41) ⟨.leaf,0⟩ (ay f41) [1,1,1,1,0,1,0] (v9 K) nsPr [.cell 9 2] [] [2,3,4,6,7,8,9,10] f (FH k a.length i) (hPrL a j g s d c e h b)
def kPr2(K:KV)(a:KF):KX:=stepF XPr 1 (Func.ntmps f41) ⟨.leaf,0⟩ (ay f41) [1,1,1,1,0,1,0] (v9 K) nsPr [.cell 9 2] [] [2,3,4,6,7,8,9,10] a
def jPrI(K:KV)(m g:KF)(l:Int)(a:List PR)(k:Li)(h:La)(r:Le)(s:Int)(e:Li)(d:La)(f:Int)(j:Li)(b:La)(i:Nat)(x y:Int)(c:Nat):Prop:=aI XPr 1 (Func.ntmps f41) ⟨.leaf,0⟩ (an (subC [1,1,1,1,0,1,0] (ay f41))) [1,0,0,1,1,0,1,0] (kPr2 K m) [] [] [] [2,3,4,6,7,8,9,10,11,12,13,14] g (FI l a.length i x y c) (hPrI a k h r s e d f j b)
theorem NX(K:KV)(f s:Int)(d:Li)(c:La)(a:Int)(e:Li)(b:La):jPr K f s d c a e b=(aR (SX.E XPr) 121 [] 0 (KZ s a) (Vi 0)=some ([(KZ s a,Vi 0,0)],1)/\U' d/\LQ c/\U' e/\LQ b/\Kt [Vi 0]/\Kt [KZ s a]/\LC/\LC/\LAtZ XPr 1 f41.ntmps (AH.mk Lf 0) (ay f41) [1,1,1,1,0,1,0] (finK (SX.E XPr) f41.results.toList K) (No (No (Ns (Sg (D_ 3)) i_ Lf) (H_ (c_ 5 0))) (Ns (Kw (Sg (t_ 4 0 1 18446744073709551621)) (c_ 1 0)) (Vi f) (Kw (Kx 0) (c_ 2 0)))) (K_ (Ns (Kw (Sg (AObj.gro [] [] 49)) (Kr [(KZ s a,Vi 0,0)] 1)) (h_ a e b) (KJ [Vi 0,KN 6 0,KN 7 0] 25)) (h_ s d c) (Ns (Lu [KZ s a] 78) X_ (Sg (AObj.gro [] [] 4))) 8)):=by kernel_rfl
theorem jPr_nf:type_of%(by have h:=@NX;revert h;delta c_ d_ h_ i_ l_ m_ p_ t_ D_ H_ K_ S_ W_ X_ U' Kr Kt Kw Kx KJ KN KZ Lu LC LQ;exact id):=@NX
theorem NY(K:KV)(j:KF)(k:Int)(a:List PR)(c:Li)(b:La)(s:Int)(f:Li)(e:La)(h:Int)(g:Li)(d:La)(i:Nat):jPrL K j k a c b s f e h g d i=(Sp (decide ((i:Int)<I_ a.length)) (ON i a/\nth (prs a) (G_ (I_ i))=some (KZ (Prod.fst (prAt (prs a) (o_ i))) (Prod.snd (prAt (prs a) (o_ i))))/\ON i a/\nth (prs a) (G_ (I_ i))=some (KZ (Prod.fst (prAt (prs a) (o_ i))) (Prod.snd (prAt (prs a) (o_ i))))/\Oe/\U' f/\LQ e/\U' g/\LQ d/\Kt (mvl (LD a))/\Kt (prs a)/\Kt (inV z256)/\Kt (blV c)/\Kt (roV b)/\LAtZ XPr 1 f41.ntmps (AH.mk Lf 0) (an (subC [1,1,1,1,0,1,0] (ay f41))) [1,0,0,1,1,0,1,0] (stepF XPr 1 f41.ntmps (AH.mk Lf 0) (ay f41) [1,1,1,1,0,1,0] (v9 K) nsPr [NPos.cell 9 2] [] [2,3,4,6,7,8,9,10] j) (No (No (Ns (Sg (D_ 3)) i_ (Kx (Prod.fst (prAt (prs a) (o_ i))))) (No (Sg (c_ 5 0)) (Sg (t_ 6 0 256 18446744073709551620)))) (Ns (Ns (Sg (t_ 4 0 a.length 18446744073709551621)) (c_ 1 0) (Kx (Prod.snd (prAt (prs a) (o_ i))))) (Vi k) (Ns (Kx i) (c_ 2 0) (Kx 0)))) (K_ (Ns (Kw (Sg (Z_ c)) (Kr (LD a) a.length)) (h_ h g d) (KJ [Vi 0,g_ 7 0 c.length,g_ 8 0 b.length] 25)) (h_ s f e) (Ns (Kw (Sg (O_ b)) (l_ (prs a) 78)) X_ (Sg (AObj.gro (inV z256) [] 3))) 9)) (K (d_ [Vi 0,g_ 6 0 c.length,g_ 7 0 b.length]) (K_ (Ns (Kw (Sg (O_ b)) (Kr (LD a) a.length)) (h_ h g d) (KJ [Vi 0,g_ 6 0 c.length,g_ 7 0 b.length] 25)) (h_ s f e) (Ns (Lu (prs a) 78) (m_ [Vi 0,g_ 6 0 c.length,g_ 7 0 b.length] 25) (Sg (Z_ c))) 8))):=by kernel_rfl
theorem D7:type_of%(by have h:=@NY;revert h;delta ON Oe b_ c_ d_ g_ h_ i_ l_ m_ o_ p_ t_ D_ G_ I_ K_ O_ S_ X_ Z_ U' Kr Kt Kw Kx KJ KZ Lu LD LQ;exact id):=@NY
theorem N0(K:KV)(m:KF)(l:KF)(j:Int)(a:List PR)(e:Li)(f:La)(r:Le)(s:Int)(g:Li)(d:La)(k:Int)(h:Li)(b:La)(i:Nat)(x y:Int)(c:Nat):jPrI K m l j a e f r s g d k h b i x y c=(Sp (decide ((c:Int)<256)) ((0<=x/\x<KY d)/\nth (roV d) (G_ (o_ x))=some (Vd 1 (r_ d x))/\(0<=(c:Int)/\(c:Int)<j_ (r_ d x))/\nth (r_ d x) c=some (Vi (aa (r_ d x) c))/\(0<=y/\y<KY b)/\nth (roV b) (G_ (o_ y))=some (Vd 1 (r_ b y))/\(0<=(c:Int)/\(c:Int)<j_ (r_ b y))/\nth (r_ b y) c=some (Vi (aa (r_ b y) c))/\bY (SX.E XPr) 121 (LD a) (KZ (aa (r_ d x) c) (aa (r_ b y) c))=some (Vi (mgP (LD a) (KZ (aa (r_ d x) c) (aa (r_ b y) c))),mhP (LD a) (KZ (aa (r_ d x) c) (aa (r_ b y) c)))/\Sp (! mhP (LD a) (KZ (aa (r_ d x) c) (aa (r_ b y) c))) (aR (SX.E XPr) 121 (LD a) a.length (KZ (aa (r_ d x) c) (aa (r_ b y) c)) (Lr a.length)=some (msP (LD a) (KZ (aa (r_ d x) c) (aa (r_ b y) c)) (Lr a.length),mnP (LD a) (KZ (aa (r_ d x) c) (aa (r_ b y) c)) (Lr a.length))/\(List.all [Vi (aa (r_ d x) c),Vi (aa (r_ b y) c)] cellv=true/\List.length a+0=List.length (prs a)/\List.length a+(1:Nat)<=(70368744177664:Nat)/\(List.length a+1)*(16:Nat)<=(140737488355328:Nat))/\(0<=(c:Int)/\(c:Int)<256)/\c<List.length (inV r)/\U' g/\LQ d/\U' h/\LQ b/\Kt (mvl (msP (LD a) (KZ (aa (r_ d x) c) (aa (r_ b y) c)) (Lr a.length)))/\Kt (prs a++[KZ (aa (r_ d x) c) (aa (r_ b y) c)])/\Kt (List.set (inV r) c (Lr a.length))/\Kt (blV e)/\Kt (roV f)/\l (No (No (Ns (Sg (D_ 3)) i_ (Kx x)) (No (Sg (c_ 5 0)) (Sg (t_ 6 0 256 18446744073709551620)))) (Ns (Ns (Sg (t_ 4 0 (List.length a+1) 18446744073709551621)) (c_ 1 0) (Kx y)) (Vi j) (Ns (Kx i) (c_ 2 0) (x_ ((c:Int)+1))))) (K_ (Ns (Kw (Sg (Z_ e)) (Kr (msP (LD a) (KZ (aa (r_ d x) c) (aa (r_ b y) c)) (Lr a.length)) (mnP (LD a) (KZ (aa (r_ d x) c) (aa (r_ b y) c)) (Lr a.length)))) (h_ k h b) (KJ [Vi 0,g_ 7 0 e.length,g_ 8 0 f.length] 25)) (h_ s g d) (Ns (Kw (Sg (O_ f)) (l_ (prs a++[KZ (aa (r_ d x) c) (aa (r_ b y) c)]) 78)) X_ (Lu (List.set (inV r) c (Lr a.length)) 3)) 9)) ((0<=(c:Int)/\(c:Int)<256)/\c<List.length (inV r)/\U' g/\LQ d/\U' h/\LQ b/\Kt (mvl (LD a))/\Kt (prs a)/\Kt (List.set (inV r) c (Vi (mgP (LD a) (KZ (aa (r_ d x) c) (aa (r_ b y) c)))))/\Kt (blV e)/\Kt (roV f)/\l (No (No (Ns (Sg (D_ 3)) i_ (Kx x)) (No (Sg (c_ 5 0)) (Sg (t_ 6 0 256 18446744073709551620)))) (Ns (Ns (Sg (t_ 4 0 a.length 18446744073709551621)) (c_ 1 0) (Kx y)) (Vi j) (Ns (Kx i) (c_ 2 0) (x_ ((c:Int)+1))))) (K_ (Ns (Kw (Sg (Z_ e)) (Kr (LD a) a.length)) (h_ k h b) (KJ [Vi 0,g_ 7 0 e.length,g_ 8 0 f.length] 25)) (h_ s g d) (Ns (Kw (Sg (O_ f)) (l_ (prs a) 78)) X_ (Lu (List.set (inV r) c (Vi (mgP (LD a) (KZ (aa (r_ d x) c) (aa (r_ b y) c))))) 3)) 9))) ((List.all [t_ 6 0 256 18446744073709551620] cellv=true/\List.length f+0=List.length (roV f)/\List.length f+(1:Nat)<=(70368744177664:Nat)/\(List.length f+1)*(24:Nat)<=(140737488355328:Nat))/\(0<=x/\x<j_ (blV g))/\nth (blV g) (G_ (o_ x))=some (Lt (blV g) (o_ x))/\(0<=y/\y<j_ (blV h))/\nth (blV h) (G_ (o_ y))=some (Lt (blV h) (o_ y))/\Value.slice (some ⟨7,0,none⟩) e.length 18446744073709551620=Value.slice (some ⟨7,0,none⟩) e.length 18446744073709551620/\(List.all [Value.bool (cmbI j (az (blV g) (o_ x)) (az (blV h) (o_ y)))] cellv=true/\List.length e+0=List.length (blV e)/\List.length e+(1:Nat)<=(70368744177664:Nat)/\(List.length e+1)*(1:Nat)<=(140737488355328:Nat))/\List.length (inV r)=256/\U' g/\LQ d/\U' h/\LQ b/\Kt (mvl (LD a))/\Kt (prs a)/\Kt (blV e++[Value.bool (cmbI j (az (blV g) (o_ x)) (az (blV h) (o_ y)))])/\Kt (roV f++[Vd 1 (inV r)])/\m (No (No (Ns (Sg (D_ 3)) i_ Lf) (H_ (c_ 5 0))) (Ns (Kw (Sg (t_ 4 0 a.length 18446744073709551621)) (c_ 1 0)) (Vi j) (Kw (x_ ((i:Int)+1)) (c_ 2 0)))) (K_ (Ns (Kw (Lu (roV f++[Vd 1 (inV r)]) 49) (Kr (LD a) a.length)) (h_ k h b) (KJ [Vi 0,g_ 6 0 (List.length e+1),g_ 7 0 (List.length f+1)] 25)) (h_ s g d) (Ns (Lu (prs a) 78) X_ (Lu (blV e++[Value.bool (cmbI j (az (blV g) (o_ x)) (az (blV h) (o_ y)))]) 4)) 8))):=by kernel_rfl
theorem D8:type_of%(by have h:=@N0;revert h;delta b_ c_ d_ g_ h_ i_ j_ l_ m_ o_ p_ r_ t_ x_ D_ G_ H_ I_ K_ O_ S_ X_ Z_ U' Kr Kt Kw Kx KJ KY KZ Lr Lt Lu LD LQ;exact id):=@N0
theorem frzF{X:SX}(j:X.Ok){d:Nat}{fn:Func}{args:Lh}{v:Value}(h:aN X d fn args ⟨.leaf,0⟩ (λa l=>Frz l a v)):Walk X.E fn args v:=by unfold aN at h;split at h;rename_i c i;split at h;rename_i F k;cases b:Nat.ble args.length fn.ntmps;rw[b]at h;exact h.elim;rw[b]at h;refine⟨c,F,i,b,k,(ik j (d:=d) h).mono λm n o q=>?_⟩;obtain⟨g,a,f,e⟩:=eG q;exact⟨g,a,f,e⟩;exact h.elim;exact h.elim
theorem iJ:∀ {l:Lh},(∀x∈l,x.cells.toList=[x])->ap l=l
 | [],_=>rfl
 |x::l,h=>by rw[aU,h x (by simp),iJ λy a=>h y (by simp[a])];rfl
theorem wS{A:AH}{B n:Nat}{els:Lh}{e:TypeId}(f:A.t.get B=some (.gro els [] e))(d:n=els.length)(a:∀ x∈els,x.cells.toList=[x])(g:∀ x∈els,HF x):Frz A (.slice (some ⟨B,0,none⟩) n (unk+3+1)) (.func (.yield 1) ⟨els⟩ ⟨[]⟩):=by
 have b:∀ x∈els,x.cells.size=1:=λx c=>by have:=Il List.length (a x c);simpa using this
 refine Frz.gsl (lo:=0) (sz:=1) (els0:=els) (c2:=els) f (Hu _) rfl rfl (by omega) (by omega) b (by omega) ?_ (iJ a) b (by omega);rw[JH,d,HX,iJ a];exact FrzL.same g
theorem one_bl(l:Li):∀ x∈blV l,x.cells.toList=[x]:=λx a=>by obtain⟨b,_,rfl⟩:=Hn.1 a;rfl
theorem one_ro(l:La):∀ x∈roV l,x.cells.toList=[x]:=λx a=>by obtain⟨b,_,rfl⟩:=Hn.1 a;rfl
theorem AE{a:AU}(h:OkA a){q:Int}(b:inA a q){c:Nat}(d:c<256):
 (0<=q/\q<((roV a.2.2).length:Int))/\nth (roV a.2.2) q.toNat=some (dat 1 (ae (roV a.2.2) q))/\((ae (roV a.2.2) q).length=256)/\nth (ae (roV a.2.2) q) c=some (.int .i64 (stp a.2.2 q c))/\aa (ae (roV a.2.2) q) (c:Int)=stp a.2.2 q c:=by obtain⟨j,i,g,f,e⟩:=jJ h b.1 b.2 d;grind
theorem yN(K:KV)(again2:KF)(F:Lg)(N:F.length=256)(a6:∀ c (h:c<F.length),F[c]=c){a b:AU}(z:OkA a)(j:OkA b)(u:Int)(d:List PR)(nd:d.Nodup)(E:∀ k∈d,inP2 a b k)(k:PR)(t:inP2 a b k)(ac:Li)(e:La)(a0:ac.length<=90000)(S:e.length<=90000)(i:Nat)(hi:i<=90000)
 (p:again2 (FH u (addS d (scF F (stP a b) k)).length (i+1)) (hPrL (addS d (scF F (stP a b) k)) (ac++[cmbI u (accA a k.1) (accA b k.2)]) (e++[nums (addS d (scF F (stP a b) k)) (scF F (stP a b) k)]) a.1 a.2.1 a.2.2 b.1 b.2.1 b.2.2)):
 LAtZ XPr 1 (Func.ntmps f41) ⟨.leaf,0⟩ (an (subC [1,1,1,1,0,1,0] (ay f41))) [1,0,0,1,1,0,1,0] (kPr2 K again2) (FI u d.length i k.1 k.2 0) (hPrI d ac e (rowC d [] 256 0) a.1 a.2.1 a.2.2 b.1 b.2.1 b.2.2):=by
 have hF:∀ c∈F,c<256:=λc y=>by grind [IA]
 refine LAtZ.stepF yg [] [] [] [2,3,4,6,7,8,9,10,11,12,13,14] (by kernel_rfl) (λm G A=>∃ c:Nat,G=FI u (addS d ((F.take c).map (stP a b k))).length i k.1 k.2 c/\A=hPrI (addS d ((F.take c).map (stP a b k))) ac e (rowC (addS d ((F.take c).map (stP a b k))) ((F.take c).map (stP a b k)) 256 c) a.1 a.2.1 a.2.2 b.1 b.2.1 b.2.2/\c+m=256) ?_ (k:=256) ⟨0,rfl,rfl,by omega⟩;rintro m G A ⟨c,rfl,rfl,X⟩;generalize M:(F.take c).map (stP a b k)=l;generalize s:addS d l=ks;have r:l.length=c:=by grind
 have J:∀ x∈l,x∈ks:=λx H=>by grind [eN]
 have I:ks.Nodup:=by grind [cy]
 have w:∀ x∈ks,inP2 a b x:=λx H=>by rw[<-s]at H;rcases du H with q|q;exact E x q;rw[<-M]at q;obtain⟨b',Z,rfl⟩:=Hn.1 q;exact gQ z j hF k t _ (Hn.2 ⟨b',IJ Z,rfl⟩)
 have V:ks.length<=90000:=gR z j ks I w;have v:=dY (ks:=ks) (n:=256) r (by omega);have R:=t.1.1;have Q:=t.2.1;refine(D8 _ _ _ u ks ac e (rowC ks l 256 c) a.1 a.2.1 a.2.2 b.1 b.2.1 b.2.2 i k.1 k.2 c).mpr ?_;rw[show(↑(Int.toNat k.1):Int)=k.1 by omega,show(↑(Int.toNat k.2):Int)=k.2 by omega];refine Sp.intro (λq=>?_) (λq=>?_);have q:=odt q;have y:c<256:=by omega
 have Y:c<F.length:=by omega
 have f:=fC (stP a b k c) l d;rw[s]at f;have o:(F.take (c+1)).map (stP a b k)=l++[stP a b k c]:=by grind [dU]
 obtain⟨P,D,C,a4,a5⟩:=AE z t.1 y;obtain⟨O,b2,B,b4,b5⟩:=AE j t.2 y;rw[a5,b5,C,B];have es:Value.agg (Array.mk [Vi (stp a.2.2 k.1 c),Vi (stp b.2.2 k.2 c)])=prV (stP a b k c):=rfl;rw[es,tz];refine⟨P,D,⟨by omega,by omega⟩,a4,O,b2,⟨by omega,by omega⟩,b4,(DG _ _).trans (by rw[tz]),Sp.intro (λg=>?_) (λg=>?_)⟩;have g:¬ stP a b k c∈ks:=by simpa using g
 rw[Hm g]at f;have ep:[prV (stP a b k c)]=prs [stP a b k c]:=rfl;rw[Dx _ _ g,Dz _ _ g,ep,px,bz,l8 r y J g,aF (x:=(c:Int)+1) (by omega) (by omega)];refine⟨uz _ _ g,⟨rfl,by rw[pw];omega,by omega,by omega⟩,⟨by omega,by omega⟩,by rw[af,v];omega,.dat (ax _),.dat (aq _),.dat (ax _),.dat (aq _),eT _,db _,ab _,au _,aw _,m-1,by omega,c+1,?_,?_,by omega⟩;rw[o,f,E'];rfl;rw[o,f];rfl;have g:stP a b k c∈ks:=by simpa using g
 rw[Ht g]at f;rw[DB _ _ g,bz,l7 r y,aF (x:=(c:Int)+1) (by omega) (by omega)];refine⟨⟨by omega,by omega⟩,by rw[af,v];omega,.dat (ax _),.dat (aq _),.dat (ax _),.dat (aq _),eT _,db _,ab _,au _,aw _,m-1,by omega,c+1,?_,?_,by omega⟩;rw[o,f];rfl;rw[o,f];rfl;have q:=odf q;obtain rfl:c=256:=by omega
 rw[<-N,HX]at M;have L:l=scF F (stP a b) k:=M.symm;rw[<-L,s]at p;obtain⟨P,D,C⟩:=o6 z t.1;obtain⟨O,b2,B⟩:=o6 j t.2;rw[C]at D;rw[B]at b2;rw[l9,C,B,iM,aF (x:=(i:Int)+1) (by omega) (by omega)];have U:=b6 ks l;have er:roV e++[Vd 1 (inV (nums ks l))]=roV (e++[nums ks l]):=cR _ _;rw[er];refine⟨⟨rfl,by rw[aG];omega,by omega,by omega⟩,P,D,O,b2,rfl,⟨rfl,by rw[aT];omega,by omega,by omega⟩,by rw[af];omega,.dat (ax _),.dat (aq _),.dat (ax _),.dat (aq _),eT _,db _,au _,aw _,?_⟩;have e1:(ac++[cmbI u (accA a k.1) (accA b k.2)]).length=ac.length+1:=by rw[E'];rfl
 have e2:(e++[nums ks l]).length=e.length+1:=by rw[E'];rfl
 unfold hPrL at p;rw[e1,e2]at p;exact p
def acR(c:Int)(a b:AU)(k:PR):Bool:=cmbI c (accA a k.1) (accA b k.2)
def prA(F:Lg)(c:Int)(a b:AU):AU:=(0,(reP F a b).map (acR c a b),bc (scF F (stP a b)) (reP F a b) (reP F a b).length)
theorem Dk(F:Lg)(u:F.length=256)(v:∀ c (h:c<F.length),F[c]=c){a b:AU}(o:OkA a)(g:OkA b)(f:Int):Walk env f41 [auV a,auV b,.int .i64 f] (auV (prA F f a b)):=by
 have C:∀ c∈F,c<256:=λc I=>by grind [IA]
 refine frzF yg (d:=1) ((jPr_nf _ f a.1 a.2.1 a.2.2 b.1 b.2.1 b.2.2).mpr ⟨?_,.dat (ax _),.dat (aq _),.dat (ax _),.dat (aq _),ab [0],db [(a.1,b.1)],au [],aw [],?_⟩);have:=updP ([]:List (PR×Int)) (a.1,b.1) 0;exact this;refine LAtZ.stepF yg nsPr [.cell 9 2] [] [2,3,4,6,7,8,9,10] (by kernel_rfl) (λm G A=>∃ (i:Nat) (e:List PR),G=FH f e.length i/\A=hPrL e ((e.take i).map (acR f a b)) (bc (scF F (stP a b)) e i) a.1 a.2.1 a.2.2 b.1 b.2.1 b.2.2/\EI (scF F (stP a b)) (inP2 a b) 90001 (a.1,b.1) e i/\i+m=90001) ?_ (k:=90001) ⟨0,[(a.1,b.1)],rfl,rfl,EI.init ⟨o.st,g.st⟩,by omega⟩;rintro m G A ⟨i,e,rfl,rfl,j,z⟩;have x:e.length<=90000:=gR o g e j.nd j.inp;have B:=j.le;refine(D7 _ _ f e _ _ a.1 a.2.1 a.2.2 b.1 b.2.1 b.2.2 i).mpr (Sp.intro (λq=>?_) (λq=>?_));have q:=odt q;have n:i<e.length:=by omega
 have y:=j.inp _ (Hq n);have t:e[i]? =some e[i]:=Hr n;obtain⟨w,l⟩:=j.step (gQ o g C) t (by omega);have s:((e.take i).map (acR f a b)).length=i:=by grind
 have p:(bc (scF F (stP a b)) e i).length=i:=by grind [bc,Hp,Ic]
 rw[D',mf n,show z256=rowC e [] 256 0 from rfl];refine⟨⟨by omega,q⟩,j4 n,⟨by omega,q⟩,j4 n,⟨by omega,by omega,by omega,by omega⟩,.dat (ax _),.dat (aq _),.dat (ax _),.dat (aq _),eT _,db _,ab _,au _,aw _,?_⟩;refine yN _ _ F u v o g f e j.nd j.inp e[i] y _ _ (by rw[s];omega) (by rw[p];omega) i (by omega) ?_;refine⟨m-1,by omega,i+1,addS e (scF F (stP a b) e[i]),rfl,?_,w,by omega⟩;rw[l];obtain⟨r,H⟩:=cN (scF F (stP a b) e[i]) e;grind [addS,scF,stP,acR,IM,HC];have q:=odf q;obtain⟨E,J⟩:=j.done (by omega) (by omega);subst E;have D:prA F f a b=(0,(e.take e.length).map (acR f a b),bc (scF F (stP a b)) e e.length):=by grind [prA,HX,reP]
 rw[D];refine .agg (.cons (.same (HFi _ _)) (.cons (wS rfl (by rw[aT]) (one_bl _) (ax _)) (.cons (wS rfl (by rw[aG]) (one_ro _) (aq _)) .nil)))
theorem Bz(F:Lg)(g:F.length=256)(m:∀ c (h:c<F.length),F[c]=c){a b:AU}(i:OkA a)(f:OkA b)(j:Int):GA (prA F j a b):=by
 have k:∀ c∈F,c<256:=λc o=>by grind [IA]
 have e:=ei_P i f k;have d:=dw_ei (acR j a b) e (gR i f _ e.nd e.inp) k (by omega);have n:=d.n0;exact⟨d.n0,d.n1,d.acl,λr l=>by rw[d.row r l,g],⟨Int.le_refl 0,by grind [prA]⟩,d.ent⟩
end
end Go.T9
namespace Go.T9
open Go Go.AM Go.MK
noncomputable section
def r256:Lg:=List.range 256
theorem qV:r256.length=256:=by unfold r256;rw[List.length_range]
theorem vf:∀ c (h:c<r256.length),r256[c]=c:=by grind [r256]
end
end Go.T9
set_option maxRecDepth 100000
namespace Go.T9
open Go.HK
def redA(a:AU):AU:=lsAU (dA a) (acN a.2.1) a.1.toNat
theorem fc{a:AU}(h:OkA a):OkA (redA a):=by
 have b:=RA.of h;have k:=h.n1;have j:=b.olen (acN a.2.1);have l:=b.o0 (acN a.2.1);have i:=b.tab (acN a.2.1);obtain⟨f,e⟩:=RA.tlen (δ :=dA a) (x0:=a.1.toNat) (acN a.2.1);unfold redA lsAU;generalize rfT (dA a) (acN a.2.1) a.1.toNat=T at*;generalize rfA (dA a) (acN a.2.1) a.1.toNat=Ac at*;generalize (rfO (dA a) (acN a.2.1) a.1.toNat).length=n at*;have c:∀ r∈T.map (λr=>r.map Int.ofNat),r.length=256/\∀ x∈r,0<=x/\x<(n:Int):=λr b=>by grind
 have d:(T.map (λr=>r.map Int.ofNat)).length=n:=by grind
 refine⟨⟨?_,?_,λr b=>?_⟩,?_,?_,?_,λr b=>(c r b).1,?_,λr b x g=>?_⟩<;>dsimp only at*;all_goals grind
theorem nV{a:AU}(h:OkA a):cw (redA a)=cw a:=(RA.of h).lang (acN a.2.1)
theorem v3{a b:AU}(h:OkA a)(e:OkA b)(f:Bool->Bool->Bool)(ac:PR->Bool)(d:∀ k,ac k=f (accA a k.1) (accA b k.2)):∀ (w:Lg) (q r:Int),inA a q->inA b r->dR (stP a b) ac (q,r) w=f (acN a.2.1 (runW (dA a) q.toNat w)) (acN b.2.1 (runW (dA b) r.toNat w))
 | [],q,r,_,_=>d (q,r)
 |c::w,q,r,hq,hr=>by have i:=eY h hq.1 hq.2 (b:=c%256) (Iy _ (by decide));have g:=eY e hr.1 hr.2 (b:=c%256) (Iy _ (by decide));have:=v3 h e f ac d w (stp a.2.2 q (c%256)) (stp b.2.2 r (c%256)) i g;rw[<-oH,<-oH]at this;exact this
theorem ke{a b:AU}(h:OkA a)(d:OkA b)(f:Bool->Bool->Bool)(ac:PR->Bool)(c:∀ k,ac k=f (accA a k.1) (accA b k.2)):dR (stP a b) ac (a.1,b.1)=λw=>f (cw a w) (cw b w):=by funext w;rw[v3 h d f ac c w a.1 b.1 h.st d.st];unfold cw bF;rw[IC]
theorem RA.ofG{a:AU}(h:GA a):RA (dA a) a.2.2.length a.1.toNat:=by
 have i:=h.st;have g:=h.n1;refine⟨by omega,λx d c=>?_,xx a,by omega⟩;have b:a.2.2[x]∈a.2.2:=Hq d;have f:=h.row _ b;have e:c%256<a.2.2[x].length:=by grind
 have:=h.ent _ b _ (Hq e);grind [dA,gD]
def Dj(c:Int)(a b:AU):AU:=prA (List.range 256) c (redA a) (redA b)
theorem yM{a b:AU}(h:OkA a)(d:OkA b)(c:Int):GA (Dj c a b):=Bz (List.range 256) (by simp) (by simp) (fc h) (fc d) c
theorem tp{a b:AU}(h:OkA a)(f:OkA b)(d:Int):cw (Dj d a b)=dR (stP a b) (acR d a b) (a.1,b.1):=by have e:=ke (fc h) (fc f) (cmbI d) (acR d (redA a) (redA b)) (λ_=>rfl);rw[nV h,nV f]at e;rw[ke h f (cmbI d) (acR d a b) (λ_=>rfl),<-e];exact my (ei_P (fc h) (fc f) (F:=List.range 256) λc g=>If.1 g) _
end Go.T9
set_option maxRecDepth 1000000
namespace Go.T9
open Go Go.AM Go.MK Go.HK Go.Proofs.Tryz
noncomputable section
def reU(a:AU):AU:=(0,reA a,reR a)
def okLv(v:Value):Prop:=v=auV (auD v)/\OkL (auD v)
theorem vC{a:AU}(h:OkL a):okLv (auV a):=⟨by rw[fy],by rw[fy];exact h⟩
theorem frzM0(b:Li)(a:La):Frz (hM0 b a) (leV b.length a.length) (auV (0,b,a)):=
 .agg (.cons (.same (HFi _ _)) (.cons (frzG (B:=0) rfl (by rw[aT]) (oneB _) (ax _)) (.cons (frzG (B:=1) rfl (by rw[aG]) (oneR _) (aq _)) .nil)))
theorem le_at{a:AU}(h:OkL a)(A:AH):CallAt env 28 [auV a] A (agV 0 (blV (reA a)) (roV (reR a))) A:=by have:=(vW h).call ai (f:=28) rfl;have b:=frzM0 (reA a) (reR a);generalize reA a=ra at*;generalize reR a=rn at*;exact uk this (HF1 _) b A
def XBd(a x:Value):SX:=⟨env,[(28,bg (sameP True [a]) (gc x))],noEl,λ_=>.unroll 0⟩
def jBd(K:KV)(s:Int)(l r:Lh)(t:Int)(m q:Lh):Prop:=aN (XBd (agV s l r) (agV t m q)) 1 f40 [agV s l r] ⟨.leaf,0⟩ K
def XCm(P:Value->Prop)(c:Value->Int)(f g:Value->Lh)(h d:Prop)(i:Int)(a b x u:Value)(e:Int):SX:=⟨env,[(27,bg (vaP WfV) (vaX λu=>.int .i64 (c u))),(28,bg (vaP P) (vaX λu=>agV 0 (f u) (g u))),(41,bg (sameP h [agV 0 (f a) (g a),agV 0 (f b) (g b),.int .i64 i]) (gc x)),(40,bg (sameP d [x]) (gc (tuV u e)))],noEl,λ_=>.unroll 0⟩
def jCm(K:KV)(P:Value->Prop)(c:Value->Int)(f g:Value->Lh)(d b:Prop)(a u:Int)(v w:Lh)(x:Int)(y z:Lh)(e s:Int)(l r:Lh)(t:Int)(m q:Lh):Prop:=aN (XCm P c f g d b a (agV s l r) (agV t m q) (agV u v w) (agV x y z) e) 2 f21 [agV s l r,agV t m q,.int .i64 a] ⟨.leaf,0⟩ K
def XRb(k:Int)(a b x:Value)(e:Int):SX:=⟨env,[(21,bg (sameP True [a,b,.int .i64 k]) (gc (tuV x e)))],noEl,λ_=>.unroll 0⟩
def jRb1(Q:Value->Prop)(u:Int)(v w:Lh)(e s:Int)(l r:Lh)(t:Int)(m q:Lh):Prop:=aN (XRb 1 (agV s l r) (agV t m q) (agV u v w) e) 1 f7 [agV s l r,agV t m q] ⟨.leaf,0⟩ (λx _=>Q x)
def jRb2(Q:Value->Prop)(u:Int)(v w:Lh)(e s:Int)(l r:Lh)(t:Int)(m q:Lh):Prop:=aN (XRb 2 (agV s l r) (agV t m q) (agV u v w) e) 1 f9 [agV s l r,agV t m q] ⟨.leaf,0⟩ (λx _=>Q x)
def jRb3(Q:Value->Prop)(u:Int)(v w:Lh)(e s:Int)(l r:Lh)(t:Int)(m q:Lh):Prop:=aN (XRb 3 (agV s l r) (agV t m q) (agV u v w) e) 1 f11 [agV s l r,agV t m q] ⟨.leaf,0⟩ (λx _=>Q x)
def XQo(P:Value->Prop)(a:Li)(b:La):SX:=⟨env,[(27,bg caP caX),(28,frmR noAr (spLe P a b))],{elB with app:=true,gm:=λ_=>true},λ_=>.autoN [] [] [] [2,5,6]⟩
def jQo(K:KV)(P:Value->Prop)(a:Li)(b:La)(s:Int)(d:Li)(c:La):Prop:=aN (XQo P a b) 2 f13 [.agg ⟨[.int .i64 s,dat 1 (blV d),dat 1 (roV c)]⟩] ⟨.leaf,0⟩ K
end
end Go.T9
namespace Go.T9
open Go Go.AM Go.MK Go.HK
noncomputable section
theorem GA.toL{a:AU}(h:GA a):OkL a:=⟨h.n0,h.n1,h.acc,h.row,h.st,h.ent⟩
def CF.kd:CF->Int
 | .c0=>0
 | .c1=>1
 | .c2=>2
 | .c3=>3
theorem cmb_f(g:CF)(h:g≠ .c0)(x y:Bool):cmbI g.kd x y=g.f x y:=by
 cases g with
 |c0=>exact absurd rfl h
 |c1=>rfl
 |c2=>rfl
 |c3=>rfl
def bdI(a:AU):AU×Int:=bif decide ((reR a).length<=300)then(reU a,0)else(auN,3)
def cmI(k:Int)(a b:AU):AU×Int:=bif decide (chkA a=0)then(bif decide (chkA b=0)then bdI (prA r256 k (reU a) (reU b))else(auN,chkA b))else(auN,chkA a)
theorem GF(g:CF)(p:g≠ .c0){a b:AU}(r:WfA a)(q:WfA b):cmI g.kd a b=cjI g a b:=by
 unfold cmI cjI;by_cases h:chkA a=0;rw[ID h];by_cases k:chkA b=0;rw[ID k];have d:=dq r h;have c:=dq q k;have i:=RA.ofG (yM d c g.kd);have j:=tp d c g.kd;have m:Dj g.kd a b=prA r256 g.kd (reU a) (reU b):=rfl;rw[m]at i j;have e:cw (prA r256 g.kd (reU a) (reU b))=λw=>g.f (cw a w) (cw b w):=by rw[j,ke d c (cmbI g.kd) (acR g.kd a b) (λ_=>rfl)];funext w;exact cmb_f g p _ _
 obtain⟨v,l⟩:=wh d c g i e;have u:=Bm d c g;obtain⟨o,n⟩:=RA.tlen (δ :=dA (prA r256 g.kd (reU a) (reU b))) (x0:=(prA r256 g.kd (reU a) (reU b)).1.toNat) (acN (prA r256 g.kd (reU a) (reU b)).2.1);simp only[C'];clear j e i m;unfold cjU;generalize prA r256 g.kd (reU a) (reU b)=X at*;generalize cjT g a b=T at*;generalize cjA g a b=Ac at*;generalize cjM g a b=M at*;have t:reU X=(0,Ac,T.map inF):=by unfold reU reA reR;rw[v,l]
 have s:(reR X).length=M:=by unfold reR;rw[Hp,o,<-n,<-l,u]
 unfold bdI;rw[t,s];rw[IE k];simp only[C',HJ];rw[IE h];simp only[HJ]
def oqU(a:AU):AU:=(0,(reA a).map λx=> !x,reR a)
def oqI(a:AU):AU×Int:=bif decide (chkA a=0)then(oqU a,0)else(auN,chkA a)
theorem Do{b:AU}(g:WfA b):oqI b=otI b:=by
 unfold oqI otI;by_cases h:chkA b=0;rw[ID h];have a:=dq g h;have f:=GD.single a;have d:(λw=> !(bF (dA b) id (acN b.2.1) b.1.toNat w))=dR (stS b) (λk=> !acS b k) (b.1,0):=by have:=ry a;funext w;exact Il not (congrFun this w)
 have e:otC b=(reS (fsS b) b).map λk=> !acS b k:=by simp_all [otC,accS,aceS,H4]
 have c:otT b=rfT (dA b) (acN b.2.1) b.1.toNat/\otA b=(rfA (dA b) (acN b.2.1) b.1.toNat).map not:=by unfold otT otA;rw[e];unfold rowS rweS;generalize fsS b=F at*;generalize caS b=C at*;exact om f (RA.of a) not (λx y=>by cases x<;>cases y<;>simp) d
 grind [oqU,otU,reA,reR];grind
end
end Go.T9
namespace Go.T9
open Go Go.AM Go.MK Go.HK Go.Proofs.Tryz
noncomputable section
theorem N2(K:KV)(s:Int)(l r:Lh)(t:Int)(m q:Lh):jBd K s l r t m q=((True/\[V_ s l r]=[V_ s l r])/\Sp (decide (300<I_ q.length)) (K (KP [d_ [Vi 0,p_,p_],Vi 3]) (K_ (Sg X_) (m_ [Vi s,Vd 1 l,Vd 1 r] 25) (KJ [Vi t,Vd 1 m,Vd 1 q] 25) 3)) (K (KP [V_ t m q,Vi 0]) (AH.mk (Ns (KJ [Vi t,Vd 1 m,Vd 1 q] 25) (m_ [Vi s,Vd 1 l,Vd 1 r] 25) (KJ [Vi t,Vd 1 m,Vd 1 q] 25)) 3))):=by kernel_rfl
theorem jBd_nf:type_of%(by have h:=@N2;revert h;delta d_ m_ p_ I_ K_ V_ X_ KJ KP;exact id):=@N2
abbrev Kz:=λa b c=>Array.mk [Vi a,Vd 1 b,Vd 1 c]
abbrev KC:=λa b c=>d_ (List.take (Go.TypeInfo.size t25) (List.drop 0 (Array.toList (Value.cells (agV a b c)))))
theorem N3(K:KV)(P:Value->Prop)(c:Value->Int)(f:Value->Lh)(g:Value->Lh)(d:Prop)(b:Prop)(a u:Int)(v w:Lh)(x:Int)(y z:Lh)(e s:Int)(l r:Lh)(t:Int)(m q:Lh):jCm K P c f g d b a u v w x y z e s l r t m q=(WfV (V_ s l r)/\Sp (! decide (c (V_ s l r)=0)) (Sp (! decide (c (V_ s l r)=0)) (K (KP [d_ [Vi 0,p_,p_],Vi (c (V_ s l r))]) (K_ (Q_ (m_ [Vi s,Vd 1 l,Vd 1 r] 25) [Vi t,Vd 1 m,Vd 1 q] 25) (m_ [Vi s,Vd 1 l,Vd 1 r] 25) (Q_ (m_ [Vi t,Vd 1 m,Vd 1 q] 25) [Vi 0,p_,p_] 25) 5)) (P (V_ s l r)/\Value.agg (Kz t m q)=Value.agg (Kz t m q)/\P (V_ t m q)/\(d/\[d_ [Vi 0,Vd 1 (f (KC s l r)),Vd 1 (g (KC s l r))],d_ [Vi 0,Vd 1 (f (KC t m q)),Vd 1 (g (KC t m q))],Vi a]=[d_ [Vi 0,Vd 1 (f (agV s l r)),Vd 1 (g (agV s l r))],d_ [Vi 0,Vd 1 (f (agV t m q)),Vd 1 (g (agV t m q))],Vi a])/\(b/\[V_ u v w]=[V_ u v w])/\K (KP [V_ x y z,Vi e]) (K_ (Q_ (m_ [Vi s,Vd 1 l,Vd 1 r] 25) [Vi t,Vd 1 m,Vd 1 q] 25) (m_ [Vi s,Vd 1 l,Vd 1 r] 25) (Q_ (m_ [Vi t,Vd 1 m,Vd 1 q] 25) [Vi x,Vd 1 y,Vd 1 z] 25) 16))) (WfV (V_ t m q)/\Sp (! decide (c (V_ t m q)=0)) (K (KP [d_ [Vi 0,p_,p_],Vi (c (V_ t m q))]) (K_ (Q_ (m_ [Vi s,Vd 1 l,Vd 1 r] 25) [Vi t,Vd 1 m,Vd 1 q] 25) (m_ [Vi s,Vd 1 l,Vd 1 r] 25) (Q_ (m_ [Vi t,Vd 1 m,Vd 1 q] 25) [Vi 0,p_,p_] 25) 5)) (P (V_ s l r)/\Value.agg (Kz t m q)=Value.agg (Kz t m q)/\P (V_ t m q)/\(d/\[d_ [Vi 0,Vd 1 (f (KC s l r)),Vd 1 (g (KC s l r))],d_ [Vi 0,Vd 1 (f (KC t m q)),Vd 1 (g (KC t m q))],Vi a]=[d_ [Vi 0,Vd 1 (f (agV s l r)),Vd 1 (g (agV s l r))],d_ [Vi 0,Vd 1 (f (agV t m q)),Vd 1 (g (agV t m q))],Vi a])/\(b/\[V_ u v w]=[V_ u v w])/\K (KP [V_ x y z,Vi e]) (K_ (Q_ (m_ [Vi s,Vd 1 l,Vd 1 r] 25) [Vi t,Vd 1 m,Vd 1 q] 25) (m_ [Vi s,Vd 1 l,Vd 1 r] 25) (Q_ (m_ [Vi t,Vd 1 m,Vd 1 q] 25) [Vi x,Vd 1 y,Vd 1 z] 25) 16)))):=by kernel_rfl
theorem jCm_nf:type_of%(by have h:=@N3;revert h;delta d_ m_ p_ K_ Q_ V_ Kz KC KP;exact id):=@N3
theorem DV(Q:Value->Prop)(u:Int)(v w:Lh)(e s:Int)(l r:Lh)(t:Int)(m q:Lh):jRb1 Q u v w e s l r t m q=((True/\[Value.agg (Array.mk [Vi s,Vd 1 l,Vd 1 r]),Value.agg (Array.mk [Vi t,Vd 1 m,Vd 1 q]),Vi 1]=[Value.agg (Array.mk [Vi s,Vd 1 l,Vd 1 r]),Value.agg (Array.mk [Vi t,Vd 1 m,Vd 1 q]),Vi 1])/\Q (Value.tuple (Array.mk [Value.agg (Array.mk [Vi u,Vd 1 v,Vd 1 w]),Vi e]))):=by kernel_rfl
theorem DU(Q:Value->Prop)(u:Int)(v w:Lh)(e s:Int)(l r:Lh)(t:Int)(m q:Lh):jRb2 Q u v w e s l r t m q=((True/\[Value.agg (Array.mk [Vi s,Vd 1 l,Vd 1 r]),Value.agg (Array.mk [Vi t,Vd 1 m,Vd 1 q]),Vi 2]=[Value.agg (Array.mk [Vi s,Vd 1 l,Vd 1 r]),Value.agg (Array.mk [Vi t,Vd 1 m,Vd 1 q]),Vi 2])/\Q (Value.tuple (Array.mk [Value.agg (Array.mk [Vi u,Vd 1 v,Vd 1 w]),Vi e]))):=by kernel_rfl
theorem DT(Q:Value->Prop)(u:Int)(v w:Lh)(e s:Int)(l r:Lh)(t:Int)(m q:Lh):jRb3 Q u v w e s l r t m q=((True/\[Value.agg (Array.mk [Vi s,Vd 1 l,Vd 1 r]),Value.agg (Array.mk [Vi t,Vd 1 m,Vd 1 q]),Vi 3]=[Value.agg (Array.mk [Vi s,Vd 1 l,Vd 1 r]),Value.agg (Array.mk [Vi t,Vd 1 m,Vd 1 q]),Vi 3])/\Q (Value.tuple (Array.mk [Value.agg (Array.mk [Vi u,Vd 1 v,Vd 1 w]),Vi e]))):=by kernel_rfl
theorem N4(K:KV)(P:Value->Prop)(a:Li)(b:La)(s:Int)(d:Li)(c:La):jQo K P a b s d c=(WfV (V_ s (blV d) (roV c))/\Sp (! decide (chkA (s,v_ d,n_ c)=0)) (K (KP [d_ [Vi 0,p_,p_],Vi (chkA (s,v_ d,n_ c))]) (AH.mk (Kw (Sg X_) (h_ s d c)) 2)) (HFs [P' d,S_ c,d_ (roV b),d_ (blV a)] (P (V_ s (blV d) (roV c)))/\Kt (blV a)/\Kt (roV b)/\LAtZ (XQo P a b) 2 f13.ntmps (AH.mk Lf 0) (ay f13) [1,1,1,0,1,0] (finK (SX.E (XQo P a b)) f13.results.toList K) (No (KA (c_ 1 0)) (Ns Lf i_ (Kx 0))) (K_ (Q_ (O_ b) [Vi 0,g_ 2 0 a.length,g_ 3 0 b.length] 25) X_ (Sg (Z_ a)) 4))):=by kernel_rfl
theorem Bn:type_of%(by have h:=@N4;revert h;delta b_ c_ d_ g_ h_ i_ l_ m_ n_ p_ v_ K_ O_ Q_ S_ V_ X_ Z_ P' Kt Kw Kx KA KP;exact id):=@N4
theorem frzP(A:AH)(a:AU)(e:Int):Frz A (.tuple ⟨[auV a,.int .i64 e]⟩) (auE a e):=.same (i5 a e)
theorem GT{a:AU}(h:OkL a):Walk env f40 [auV a] (auE (bdI a).1 (bdI a).2):=by have b:=le_at h;unfold bdI reU;generalize reA a=ra at*;generalize reR a=rn at*;refine frzR (X:=XBd (auV a) (agV 0 (blV ra) (roV rn))) ⟨ai,aD,am,.cons (jR λ_=>b) .nil⟩ (d:=1) ((jBd_nf _ a.1 (blV a.2.1) (roV a.2.2) 0 (blV ra) (roV rn)).mpr ?_);rw[aG];refine⟨⟨trivial,rfl⟩,Sp.intro (λq=>?_) (λq=>?_)⟩;rw[IE (by grind)];exact frzN _ _;rw[ID (by grind)];exact frzP _ (0,ra,rn) 0
theorem pr_at(c:Int){a b:AU}(h:OkA (reU a))(d:OkA (reU b))(A:AH):CallAt env 41 [agV 0 (blV (reA a)) (roV (reR a)),agV 0 (blV (reA b)) (roV (reR b)),.int .i64 c] A (auV (prA r256 c (reU a) (reU b))) A:=by unfold reU at*;generalize reA a=x at*;generalize reR a=y at*;generalize reA b=z at*;generalize reR b=w at*;exact c8 ai am (fn:=f41) rfl (HF.cons (fH (0,x,y)) (HF.cons (fH (0,z,w)) (HF.cons (HFi _ _) HF.nil))) (Dk r256 qV vf h d c) A
theorem bd_at{a:AU}(h:OkL a)(A:AH):CallAt env 40 [auV a] A (tuV (auV (bdI a).1) (bdI a).2) A:=c8 ai am (fn:=f40) rfl (HF1 _) (GT h) A
theorem GE(i:Int){a b:AU}(l:WfA a)(k:WfA b):Walk env f21 [auV a,auV b,.int .i64 i] (auE (cmI i a b).1 (cmI i a b).2):=by
 have H:chkA a=0->OkA a/\OkA (reU a):=λh=>⟨dq l h,fc (dq l h)⟩;have G:chkA b=0->OkA b/\OkA (reU b):=λh=>⟨dq k h,fc (dq k h)⟩;have z:(XCm okLv (λu=>chkA (auD u)) (λu=>blV (reA (auD u))) (λu=>roV (reR (auD u))) (OkA (reU (auD (auV a)))/\OkA (reU (auD (auV b)))) (OkL (prA r256 i (reU (auD (auV a))) (reU (auD (auV b))))) i (auV a) (auV b) (auV (prA r256 i (reU (auD (auV a))) (reU (auD (auV b))))) (auV (bdI (prA r256 i (reU (auD (auV a))) (reU (auD (auV b))))).1) (bdI (prA r256 i (reU (auD (auV a))) (reU (auD (auV b))))).2).Ok:=⟨ai,aD,am,.cons (va_at (g:=λa=>.int .i64 (chkA a)) λa h=>cr_at h) (.cons (va_at (g:=λa=>agV 0 (blV (reA a)) (roV (reR a))) λa h=>le_at h) (.cons (jR λh=>pr_at i h.1 h.2) (.cons (jR λh=>bd_at h) .nil)))⟩;have o:(λu=>chkA (auD u)) (auV a)=chkA a:=by grind [chkA,auD,auV,fy]
 have m:(λu=>chkA (auD u)) (auV b)=chkA b:=by grind [chkA,auD,auV,fy]
 have F:OkA (reU a)->OkA (reU b)->OkL (prA r256 i (reU a) (reU b)):=λJ I=>GA.toL (Bz r256 qV vf J I i);have L:auD (auV a)=a:=fy a;have K:auD (auV b)=b:=fy b;unfold cmI;simp only[L,K]at z;generalize prA r256 i (reU a) (reU b)=X at*;generalize bdI X=Y at*;generalize (λu=>blV (reA (auD u)))=f at*;generalize (λu=>roV (reR (auD u)))=g at*;generalize (λu=>chkA (auD u))=c at*;obtain⟨A,C,B⟩:=X;obtain⟨⟨r,t,s⟩,e⟩:=Y;refine frzR z (d:=2) ((jCm_nf _ okLv c f g _ _ i A (blV C) (roV B) r (blV t) (roV s) e a.1 (blV a.2.1) (roV a.2.2) b.1 (blV b.2.1) (roV b.2.2)).mpr ?_);have v:∀ {p:Prop}[Decidable p],(!decide p)=true->¬ p:=λh=>by simpa using h
 have j:∀ {p:Prop}[Decidable p],(!decide p)=false->p:=λh=>by simpa using h
 refine⟨gC l,Sp.intro (λq=>?_) (λq=>?_)⟩;have n:¬ c (auV a)=0:=v q;rw[<-o,IE n];exact Sp.intro (λ_=>frzN _ _) (λq=>absurd (j q) n);have n:c (auV a)=0:=j q;rw[<-o,ID n];refine⟨gC k,Sp.intro (λq=>?_) (λq=>?_)⟩;have n:¬ c (auV b)=0:=v q;rw[<-m,IE n];exact frzN _ _;have y:c (auV b)=0:=j q;rw[<-m,ID y];obtain⟨E,x⟩:=H (o▸n);obtain⟨D,w⟩:=G (m▸y);exact⟨vC E.toL,rfl,vC D.toL,⟨⟨x,w⟩,rfl⟩,⟨F x w,rfl⟩,.same (i5 (r,t,s) e)⟩
theorem Dd(g:CF)(e:g≠ .c0){a b:AU}(d:WfA a)(c:WfA b):(XRb g.kd (auV a) (auV b) (auV (cjI g a b).1) (cjI g a b).2).Ok:=⟨ai,aD,am,.cons (cK rfl (HF.cons (fH _) (HF.cons (fH _) (HF.cons (HFi _ _) HF.nil))) λ_=>by rw[<-GF g e d c];exact GE g.kd d c) .nil⟩
theorem yI(a b:AU)(e:WfA a)(c:WfA b):Walk env f7 [auV a,auV b] (aeW (cjI .c1) a b):=k8 (Dd .c1 (λh=>by cases h) e c) (d:=1) (i5 _ _) ((DV _ (cjI .c1 a b).1.1 _ _ (cjI .c1 a b).2 a.1 _ _ b.1 _ _).mpr ⟨⟨trivial,rfl⟩,rfl⟩)
theorem yH(a b:AU)(e:WfA a)(c:WfA b):Walk env f9 [auV a,auV b] (aeW (cjI .c2) a b):=k8 (Dd .c2 (λh=>by cases h) e c) (d:=1) (i5 _ _) ((DU _ (cjI .c2 a b).1.1 _ _ (cjI .c2 a b).2 a.1 _ _ b.1 _ _).mpr ⟨⟨trivial,rfl⟩,rfl⟩)
theorem yG(a b:AU)(e:WfA a)(c:WfA b):Walk env f11 [auV a,auV b] (aeW (cjI .c3) a b):=k8 (Dd .c3 (λh=>by cases h) e c) (d:=1) (i5 _ _) ((DT _ (cjI .c3 a b).1.1 _ _ (cjI .c3 a b).2 a.1 _ _ b.1 _ _).mpr ⟨⟨trivial,rfl⟩,rfl⟩)
def frQo(i:Nat):T Value:=(Nd (Nd Lf none (Nd Lf (some (.pointer (some ⟨1,0,none⟩))) Lf)) none (Nd Lf (some (.pointer (some ⟨0,0,none⟩))) (Nd Lf (some (.int .i64 i)) Lf)))
def hQo(a:La)(l:Li)(n:Nat):AH:=⟨(Nd (Nd (Nd Lf (some (groR a)) Lf) (some (.cells [.int .i64 0,groS 2 n,groS 3 a.length] 25)) Lf) (some (.cells [.int .i64 0,nilS,nilS] 25)) (Nd Lf (some (groB l)) Lf)),4⟩
def kFinQo(K:KV)(P:Value->Prop)(a:Li)(b:La):KX:=finK (XQo P a b).E (f13.results).toList K
def jQoL(K:KV)(c:KF)(P:Value->Prop)(b:Li)(a:La)(l:Li)(n i:Nat):Prop:=aI (XQo P b a) 2 (Func.ntmps f13) ⟨.leaf,0⟩ (ay f13) [1,1,1,0,1,0] (kFinQo K P b a) [] [] [] [2,5,6] c (frQo i) (hQo a l n)
theorem N5(K:KV)(b:KF)(P:Value->Prop)(c:Li)(a:La)(l:Li)(n i:Nat):jQoL K b P c a l n i=(Sp (decide ((i:Int)<(n:Int))) (OO i n/\nth (blV l) i=some (Lt (blV l) i)/\OO i n/\i<List.length (blV l)/\Kt (List.set (blV l) i (Value.bool ! az (blV l) i))/\Kt (roV a)/\b (No (KA (c_ 1 0)) (Ns Lf i_ (x_ ((i:Int)+1)))) (K_ (Q_ (O_ a) [Vi 0,g_ 2 0 n,g_ 3 0 a.length] 25) X_ (Lu (List.set (blV l) i (Value.bool ! az (blV l) i)) 4) 4)) (K (KP [d_ [Vi 0,g_ 2 0 n,g_ 3 0 a.length],Vi 0]) (K_ (Q_ (O_ a) [Vi 0,g_ 2 0 n,g_ 3 0 a.length] 25) (m_ [Vi 0,g_ 2 0 n,g_ 3 0 a.length] 25) (Sg (Z_ l)) 4))):=by kernel_rfl
theorem D3:type_of%(by have h:=@N5;revert h;delta OO b_ c_ d_ g_ i_ l_ m_ p_ x_ K_ O_ Q_ X_ Z_ Kt KA KP Lt Lu;exact id):=@N5
theorem Hh:(XQo (λ_=>False) [] []).Ok:=⟨ai,aD,am,.cons BI (.cons DL .nil)⟩
theorem Df{b:AU}(a:WfA b):Walk env f13 [auV b] (auE (otI b).1 (otI b).2):=by
 rw[<-Do a];by_cases h:chkA b=0;have f:=dq a h;have e:oqI b=(oqU b,0):=by simp_all [oqI,ID,C']
 rw[e];have l:(XQo (λu=>u=auV b) (reA b) (reR b)).Ok:=⟨ai,aD,am,.cons BI (.cons (le_tab f.toL) .nil)⟩;have t:(reA b).length<=300:=by have y:=(RA.of f).olen (acN b.2.1);have w:=(RA.tlen (δ :=dA b) (x0:=b.1.toNat) (acN b.2.1)).2;have v:=f.n1;unfold reA;omega
 unfold oqU;clear e;generalize reA b=ra at*;generalize reR b=rn at*;refine frzR l (d:=2) ((Bn (λc j=>Frz j c (auE (0,ra.map λx=> !x,rn) 0)) _ ra rn b.1 b.2.1 b.2.2).mpr ?_);rw[bf,bd];refine⟨gC a,Sp.intro (λq=>absurd h (by simpa using q)) (λ_=>⟨⟨.dat (ax _),.dat (aq _),aw _,au _,rfl⟩,au _,aw _,?_⟩)⟩;refine LAtZ.stepF l [] [] [] [2,5,6] (by kernel_rfl) (λm G A=>∃ i:Nat,G=frQo i/\A=hQo rn (flp ra i) ra.length/\i+m=ra.length) ?_ (k:=ra.length) ⟨0,rfl,rfl,by omega⟩;rintro m G A ⟨i,rfl,rfl,p⟩;refine(D3 _ _ _ ra rn (flp ra i) ra.length i).mpr (Sp.intro (λq=>?_) (λq=>?_));have q:=odt q;have r:i<ra.length:=by omega
 obtain⟨g,n,s⟩:=BA r;rw[bw g,n,blV_set,s,aF (x:=(i:Int)+1) (by omega) (by omega)];exact⟨⟨by omega,q⟩,by rw[<-n];exact dj g,⟨by omega,q⟩,by rw[aT];exact g,au _,aw _,m-1,by omega,i+1,rfl,rfl,by omega⟩;have q:=odf q;obtain rfl:i=ra.length:=by omega
 rw[xb];have o:ra.length=(ra.map λx=> !x).length:=by rw[Hp]
 rw[o];exact FC _ rfl rfl;have e:oqI b=(auN,chkA b):=by simp_all [oqI,IE,HJ]
 rw[e];refine frzR Hh (d:=2) ?_;refine(Bn (λc j=>Frz j c (auE auN (chkA b))) _ [] [] b.1 b.2.1 b.2.2).mpr ?_;rw[bf,bd];exact⟨gC a,Sp.intro (λ_=>frzN _ _) (λq=>absurd (by simpa using q) h)⟩
def tdQ(T:Value->Int->Prop):Lh->Ll
 | [v,.int .i64 e]=>some (T v e)
 |_=>none
def tdY(g:Value->Int->LB):Lh->Lj
 | [v,.int .i64 e]=>some (.string (av (g v e)))
 |_=>none
def tdOk(v:Value)(e:Int):Prop:=(v=auV (auD v)/\TOk (auD v))/\0<=e/\e<301
theorem tq_tab:∀ args A p v A',bg (tdQ tdOk) (tdY λv=>tdT (auD v)) args A=some (p,v,A')->PH p->CallAt env 5 args A v A':=dh ai am (fn:=f5) rfl λargs v h b=>by unfold tdY at h;split at h;rename_i u e;cases h;obtain⟨⟨a,d⟩,c⟩:tdOk u e:=b;have:=Cp d c;rw[<-a]at this;exact⟨HF.cons (by rw[a];exact fH _) (HF.cons (HFi _ _) HF.nil),this⟩;cases h
def XLc(T:Value->Int->Prop)(g:Value->Int->LB)(a b j h i e:Value)(k f c d:Int):SX:=⟨env,[(6,bg (sameP True [a,b]) (gc (tuV j k))),(7,bg (sameP True [a,b]) (gc (tuV j k))),(8,bg (sameP True [a,b]) (gc (tuV h f))),(9,bg (sameP True [a,b]) (gc (tuV h f))),(10,bg (sameP True [a,b]) (gc (tuV i c))),(11,bg (sameP True [a,b]) (gc (tuV i c))),(12,bg (sameP True [a]) (gc (tuV e d))),(13,bg (sameP True [a]) (gc (tuV e d))),(5,bg (tdQ T) (tdY g)),(14,bg (λ_=>none) stZ)],noEl,λ_=>.unroll 0⟩
def jLc(Q:Value->Prop)(h:KV)(T:Value->Int->Prop)(g:Value->Int->LB)(m j k f:Value)(n i d e s:Int)(l r:Lh)(c:Int)(b a:Lh):Prop:=aN (XLc T g (agV s l r) (agV c b a) m j k f n i d e) 1 f3 [agV s l r,agV c b a] ⟨.leaf,0⟩ (vV Q h)
set_option maxHeartbeats 1000000
abbrev Ox(a:Int)(b:Lh)(c:Lh)(d:Int)(e:Lh)(f:Lh):Prop:=(True/\[V_ a b c,V_ d e f]=[V_ a b c,V_ d e f])
theorem N6(Q:Value->Prop)(n:KV)(T:Value->Int->Prop)(g:Value->Int->LB)(k:Value)(i:Value)(j:Value)(f:Value)(m h d e s:Int)(l r:Lh)(c:Int)(b a:Lh):jLc Q n T g k i j f m h d e s l r c b a=(Ox s l r c b a/\T k m/\Value.agg (Kz s l r)=Value.agg (Kz s l r)/\Value.agg (Kz s l r)=Value.agg (Kz s l r)/\Value.agg (Kz c b a)=Value.agg (Kz c b a)/\Value.agg (Kz c b a)=Value.agg (Kz c b a)/\Ox s l r c b a/\T k m/\Sp (eqL (Array.toList (ByteArray.data (av (g k m)))) (Array.toList (ByteArray.data (av (g k m))))) (Ox s l r c b a/\T i h/\Value.agg (Kz s l r)=Value.agg (Kz s l r)/\Value.agg (Kz s l r)=Value.agg (Kz s l r)/\Value.agg (Kz c b a)=Value.agg (Kz c b a)/\Value.agg (Kz c b a)=Value.agg (Kz c b a)/\Ox s l r c b a/\T i h/\Sp (eqL (Array.toList (ByteArray.data (av (g i h)))) (Array.toList (ByteArray.data (av (g i h))))) (Ox s l r c b a/\T j d/\Value.agg (Kz s l r)=Value.agg (Kz s l r)/\Value.agg (Kz s l r)=Value.agg (Kz s l r)/\Value.agg (Kz c b a)=Value.agg (Kz c b a)/\Value.agg (Kz c b a)=Value.agg (Kz c b a)/\Ox s l r c b a/\T j d/\Sp (eqL (Array.toList (ByteArray.data (av (g j d)))) (Array.toList (ByteArray.data (av (g j d))))) ((True/\[V_ s l r]=[V_ s l r])/\T f e/\Value.agg (Kz s l r)=Value.agg (Kz s l r)/\Value.agg (Kz s l r)=Value.agg (Kz s l r)/\(True/\[V_ s l r]=[V_ s l r])/\T f e/\Sp (eqL (Array.toList (ByteArray.data (av (g f e)))) (Array.toList (ByteArray.data (av (g f e))))) (Q KG) (Q O')) (Q O')) (Q O')) (Q O')):=by kernel_rfl
theorem jLc_nf:type_of%(by have h:=@N6;revert h;delta Ox d_ V_ O' Kz KG;exact id):=@N6
theorem DJ(i:∀ args A p v A',bg (λ_=>none) stZ args A=some (p,v,A')->PH p->CallAt env 14 args A v A'){a b:AU}(c:WfA a)(f:WfA b):Walk env f3 [auV a,auV b] (.bool true):=by
 have t:∀ {a:AU}{e:Int},WfA a/\TOk a/\0<=e/\e<301->tdOk (auV a) e:=λh=>by unfold tdOk;rw[fy];exact⟨⟨rfl,h.2.1⟩,h.2.2⟩
 have k:∀ {l:List UInt8}{p q:Prop},p->Sp (eqL l l) p q:=λh=>Sp.intro (λ_=>h) (λq=>absurd q (by rw[(eH _ _).2 rfl];simp));have x:=t (ng .c1 c f);have y:=t (ng .c2 c f);have z:=t (ng .c3 c f);have o:=t (yX c);have r:True/\[auV a,auV b]=[auV a,auV b]:=⟨trivial,rfl⟩;have g:=HF2 a b;refine eP ⟨ai,aD,am,.cons (cK rfl g λ_=>GO a b c f) (.cons (cK rfl g λ_=>yI a b c f) (.cons (cK rfl g λ_=>Gi a b c f) (.cons (cK rfl g λ_=>yH a b c f) (.cons (cK rfl g λ_=>Ce a b c f) (.cons (cK rfl g λ_=>yG a b c f) (.cons (cK rfl (HF1 a) λ_=>Dp c) (.cons (cK rfl (HF1 a) λ_=>Df c) (.cons tq_tab (.cons i .nil)))))))))⟩ (d:=1) (HFb _) ((jLc_nf _ _ tdOk (λv=>tdT (auD v)) (auV (cjI .c1 a b).1) (auV (cjI .c2 a b).1) (auV (cjI .c3 a b).1) (auV (otI a).1) _ _ _ _ a.1 _ _ b.1 _ _).mpr ?_);exact⟨r,x,rfl,rfl,rfl,rfl,r,x,k ⟨r,y,rfl,rfl,rfl,rfl,r,y,k ⟨r,z,rfl,rfl,rfl,rfl,r,z,k ⟨⟨trivial,rfl⟩,o,rfl,rfl,⟨trivial,rfl⟩,o,k rfl⟩⟩⟩⟩
end
end Go.T9
