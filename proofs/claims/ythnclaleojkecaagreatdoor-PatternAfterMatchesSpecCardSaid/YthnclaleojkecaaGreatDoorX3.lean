/- A part of the proof. -/
import Derived.Test.YthnclaleojkecaaGreatDoorX2
import Derived.Test.YthnclaleojkecaaGreatDoorX1
set_option linter.unusedVariables false
set_option linter.unusedSimpArgs false
set_option linter.unusedSectionVars false
set_option maxRecDepth 1000000
namespace Go.T9
open Go Go.AM Go.MK Go.Proofs.Tryz
noncomputable section
theorem L7(K:KV)(x y c s:Int)(acc:Li)(nx:La):jSs K x y c s acc nx=((0<=x/\x<Kh nx)/\nth (roV nx) (z_ (Kp x))=some (Vd 1 (r_ nx x))/\(0<=c/\c<j_ (r_ nx x))/\nth (r_ nx x) (z_ (Kp c))=some (Vi (aa (r_ nx x) (Kp c)))/\K (f_ [Vi (aa (r_ nx x) (Kp c)),Vi 0]) (Q_ (Ks [Vi x,Vi y] 75) (l_ s acc nx) (Ks [Vi (aa (r_ nx x) (Kp c)),Vi 0] 75) 3)):=by kernel_rfl
theorem jSs_nf:type_of%(by have h:=@L7;revert h;delta f_ j_ l_ n_ r_ z_ B_ Q_ Kh Kp Ks;exact id):=@L7
theorem jAs_nf(K:KV)(x y s:Int)(acc:Li)(nx:La):jAs K x y s acc nx=((0<=x/\x<(↑(List.length (blV acc)):Int))/\nth (blV acc) (Int.toNat (↑(Int.toNat x):Int))=some (Value.bool (aG (blV acc) (↑(Int.toNat x):Int)))/\K (Value.bool (aG (blV acc) (↑(Int.toNat x):Int))) (AH.mk (Ns (Sg (AObj.cells [Vi x,Vi y] 75)) (AObj.cells [Vi s,Vd 1 (blV acc),Vd 1 (roV nx)] 25) Lf) 2)):=by kernel_rfl
def accA(a:AU)(q:Int):Bool:=a.2.1.getD q.toNat false
def inA(a:AU)(q:Int):Prop:=0<=q/\q<a.2.2.length
def stS(a:AU)(k:PR)(c:Nat):PR:=(stp a.2.2 k.1 c,0)
def acS(a:AU)(k:PR):Bool:=accA a k.1
theorem acc_at{a:AU}(h:OkA a){q:Int}(d:inA a q):(0<=q/\q<((blV a.2.1).length:Int))/\nth (blV a.2.1) q.toNat=some (.bool (aG (blV a.2.1) q))/\aG (blV a.2.1) q=accA a q:=by
 obtain⟨e,i⟩:=d;have g:=h.acc;have b:q.toNat<a.2.1.length:=by omega
 have f:(↑q.toNat:Int)=q:=by omega
 have c:=bv b;rw[f]at c;rw[bc,c];refine⟨⟨e,by omega⟩,di b,?_⟩;unfold accA;rw[gD b]
theorem Cp{a:AU}(h:OkA a){k:PR}(f:inA a k.1){c:Nat}(g:c<256):WalkF env f40 [prV k,.int .i64 c,.pointer (some ⟨0,0,none⟩)] (hA1 a.1 a.2.1 a.2.2) (prV (stS a k c)) (hA1 a.1 a.2.1 a.2.2):=by
 obtain⟨m,l,r,j,i⟩:=jy h f.1 f.2 g;obtain⟨s,b,e⟩:=a;obtain⟨x,y⟩:=k;obtain⟨q,_⟩:=f;dsimp only at*;have o:(↑x.toNat:Int)=x:=by omega
 have n:(↑(Int.toNat (c:Int)):Int)=c:=by omega
 refine aJ XSs_ok (d:=1) (ns:=[]) (zs:=[]) (ws:=[]) ((jSs_nf _ x y c s b e).mpr ?_);rw[o,n,Gs];refine⟨m,l,⟨by omega,by omega⟩,j,?_⟩;rw[i];have:endF env (hA1 s b e) [] [] [] (λv1 p=>v1=prV (stS (s,b,e) (x,y) c)/\p=hA1 s b e) (.agg ⟨[.int .i64 (stp e x c),.int .i64 0]⟩) ⟨(.node (.node .leaf (some (.cells [.int .i64 x,.int .i64 y] 75)) .leaf) (some (auC s b e)) (.node .leaf (some (.cells [.int .i64 (stp e x c),.int .i64 0] 75)) .leaf)),3⟩=(HF (dat 1 (blV b))/\HF (dat 1 (roV e))/\(Value.agg ⟨[.int .i64 (stp e x c),.int .i64 0]⟩=prV (stS (s,b,e) (x,y) c)/\hA1 s b e=hA1 s b e)):=by kernel_rfl
 exact this.mpr ⟨.dat (aN _),.dat (aK _),rfl,rfl⟩
theorem Ga{a:AU}(h:OkA a){k:PR}(e:inA a k.1):WalkF env f38 [prV k,.pointer (some ⟨0,0,none⟩)] (hA1 a.1 a.2.1 a.2.2) (.bool (acS a k)) (hA1 a.1 a.2.1 a.2.2):=by
 obtain⟨i,g,f⟩:=acc_at h e;obtain⟨s,b,c⟩:=a;obtain⟨x,y⟩:=k;obtain⟨m,_⟩:=e;dsimp only at*;have j:(↑x.toNat:Int)=x:=by omega
 refine aJ XAs_ok (d:=1) (ns:=[]) (zs:=[]) (ws:=[]) ((jAs_nf _ x y s b c).mpr ?_);rw[j];refine⟨i,g,?_⟩;rw[f];have:endF env (hA1 s b c) [] [] [] (λv1 l=>v1=.bool (acS (s,b,c) (x,y))/\l=hA1 s b c) (.bool (accA (s,b,c) x)) ⟨(.node (.node .leaf (some (.cells [.int .i64 x,.int .i64 y] 75)) .leaf) (some (auC s b c)) .leaf),2⟩=(HF (dat 1 (blV b))/\HF (dat 1 (roV c))/\(Value.bool (accA (s,b,c) x)=.bool (acS (s,b,c) (x,y))/\hA1 s b c=hA1 s b c)):=by kernel_rfl
 exact this.mpr ⟨.dat (aN _),.dat (aK _),rfl,rfl⟩
def spSs:Lh->List AObj->Option (Ll×Value×List AObj)
 | [.agg ⟨[.int .i64 x,.int .i64 y]⟩,.int .i64 c,.pointer (some ⟨B,o,none⟩)],[u]=>(match auO u with
   |some a=>bif Nat.beq B 0&&Nat.beq o 0 then some (some (okO u a/\inA a x/\0<=c/\c<256),prV (stS a (x,y) c.toNat),[u])else none
   |_=>none)
 |_,_=>none
def spAs:Lh->List AObj->Option (Ll×Value×List AObj)
 | [.agg ⟨[.int .i64 x,.int .i64 y]⟩,.pointer (some ⟨B,o,none⟩)],[u]=>(match auO u with
   |some a=>bif Nat.beq B 0&&Nat.beq o 0 then some (some (okO u a/\inA a x),.bool (acS a (x,y)),[u])else none
   |_=>none)
 |_,_=>none
theorem ss_tab:∀ args A p v A',frmR noAr spSs args A=some (p,v,A')->PH p->CallAt env 40 args A v A':=be am (fn:=f40) rfl λargs e p v d h f=>by unfold spSs at h;split at h;rename_i x y c B o u;split at h;rename_i a l;cases b:Nat.beq B 0&&Nat.beq o 0;rw[b]at h;cases h;rw[b]at h;simp only[D',osI,Gx]at h;obtain⟨rfl,rfl,rfl⟩:=h;simp only[f',GG]at b;obtain⟨rfl,rfl⟩:=b;obtain⟨⟨rfl,j⟩,g,i,m⟩:okO u a/\inA a x/\0<=c/\c<256:=f;obtain⟨n,rfl⟩:=H4 i;rw[pX];exact Cp j (k:=(x,y)) g (by omega);cases h;cases h
theorem as_tab:∀ args A p v A',frmR noAr spAs args A=some (p,v,A')->PH p->CallAt env 38 args A v A':=be am (fn:=f38) rfl λargs d p v c h e=>by unfold spAs at h;split at h;rename_i x y B o u;split at h;rename_i a i;cases b:Nat.beq B 0&&Nat.beq o 0;rw[b]at h;cases h;rw[b]at h;simp only[D',osI,Gx]at h;obtain⟨rfl,rfl,rfl⟩:=h;simp only[f',GG]at b;obtain⟨rfl,rfl⟩:=b;obtain⟨⟨rfl,g⟩,f⟩:okO u a/\inA a x:=e;rw[pX];exact Ga g (k:=(x,y)) f;cases h;cases h
def vP:Value->PR
 | .agg ⟨[.int _ a,.int _ b]⟩=>(a,b)
 |_=>(0,0)
def enP(m:List (PR×Int)):Ents:=ents prV (Value.int .i64) m
def mgP(es:Ents)(k:Value):Int:=(aget (inv vP deI es) (vP k)).getD 0
def mhP(es:Ents)(k:Value):Bool:=(aget (inv vP deI es) (vP k)).isSome
def msP(es:Ents)(k v:Value):Ents:=enP (aset (inv vP deI es) (vP k) (deI v))
def mnP(es:Ents)(k v:Value):Nat:=(aset (inv vP deI es) (vP k) (deI v)).length
theorem and2(a b:PR):(decide (a.1=b.1)&&(decide (a.2=b.2)&&true))=decide (a=b):=by obtain⟨e,d⟩:=a;obtain⟨c,b2⟩:=b;simp only[Gx,Bool.decide_and,Bool.and_true]
theorem eqkP(a b:PR):oP env 75 (prV a) (prV b)=some (decide (a.1=b.1)&&(decide (a.2=b.2)&&true)):=by kernel_rfl
theorem koP:KeyOk env 117 75 3 prV (.int .i64 0):=⟨by kernel_rfl,λ_=>rfl,λc k=>by cases c<;>kernel_rfl,⟨_,rfl,.inr ⟨λ_ _=>rfl,λa b=>(eqkP a b).trans (Hu some (and2 a b))⟩⟩,λk=>by simp[prV,Instr.sameBits],⟨_,rfl,rfl,rfl⟩⟩
theorem invP(m:List (PR×Int)):inv vP deI (enP m)=m:=mA (λ_=>rfl) (λ_=>rfl) m
theorem lookP(m:List (PR×Int))(k:PR):cu env 117 (enP m) (prV k)=some (.int .i64 (mgP (enP m) (prV k)),mhP (enP m) (prV k)):=by refine(jX koP (Value.int .i64) k m).trans ?_;unfold mgP mhP;rw[invP];show _=some (Value.int .i64 ((aget m k).getD 0),(aget m k).isSome);cases aget m k<;>rfl
theorem updP(m:List (PR×Int))(k:PR)(v:Int):ba env 117 (enP m) m.length (prV k) (.int .i64 v)=some (enP (aset m k v),(aset m k v).length):=lJ koP (Value.int .i64) k v m
theorem sQ(m:List (PR×Int)):HF (.agg ⟨(enP m).map λx=>x.2.1⟩):=qB (λv=>.scal rfl) m
def prs(l:List PR):Lh:=l.map prV
def prAt(els:Lh)(i:Int):PR:=match nth els i.toNat with|some v=>vP v|none=>(0,0)
def elEx:El:={El.of (λ_ t els i=>bif Nat.beq t 31 then some (.agg ⟨[.int .i64 (prAt els i).1,.int .i64 (prAt els i).2]⟩)else some (.int .i64 (aa els i)))with app:=true,gm:=λ_=>true,ml:=λ_ es k=>some (.int .i64 (mgP es k),mhP es k),mu:=λ_ es _ k v=>some (msP es k v,mnP es k v)}
def nsEx:List (NPos×TypeId×Nat):=[(.slot 9,75,2),(.cell 0 257,4,1),(.cell 0 258,37,1)]
def XEx:SX:=⟨env,[(40,frmR noAr spSs),(38,frmR noAr spAs)],elEx,λk=>bif Nat.beq k 4 then .autoN nsEx [.cell 0 258] [] [0,2,3,8,9,10]else .autoN [] [] [] [0,2,3,8,9,10,11,12,42,43,44]⟩
theorem xX:XEx.Ok:=⟨am,aE,ap,.cons ss_tab (.cons as_tab .nil)⟩
def vY(K:KV):KX:=finK XEx.E (f39.results).toList K
def groP(B n:Nat):Value:=.slice (some ⟨B,0,none⟩) n (unk+3+2)
def cAs(B:Nat):Value:=.func (.func 38) ⟨[]⟩ ⟨[.pointer (some ⟨B,0,none⟩)]⟩
def cSs(B:Nat):Value:=.func (.func 40) ⟨[]⟩ ⟨[.pointer (some ⟨B,0,none⟩)]⟩
def hEs0(C F:Le)(s:Int)(acc:Li)(nx:La):AH:=⟨(Nd (Nd Lf (some (auC s acc nx)) Lf) (some (dfO C [groS 2 F.length,nilS,nilS])) (Nd Lf (some (.gro (inV F) [] 3)) Lf)),3⟩
def hEsL(C F:Le)(ks:List PR)(ac:Li)(rw:La)(s:Int)(acc:Li)(nx:La):AH:=⟨(Nd (Nd (Nd Lf (some (.map (enP (mkM ks)) ks.length)) Lf) (some (auC s acc nx)) (Nd Lf (some (.gro (blV ac) [] 4)) Lf)) (some (dfO C [groS 2 F.length,groS 5 ac.length,groS 6 rw.length])) (Nd (Nd Lf (some (.gro (prs ks) [] 75)) Lf) (some (.gro (inV F) [] 3)) (Nd Lf (some (.gro (roV rw) [] 37)) Lf))),7⟩
def hEsI(C F:Le)(ks:List PR)(ac:Li)(rw:La)(k:PR)(r:Le)(s:Int)(acc:Li)(nx:La):AH:=⟨(Nd (Nd (Nd (Nd Lf (some (.gro (blV ac) [] 4)) Lf) (some (.map (enP (mkM ks)) ks.length)) Lf) (some (auC s acc nx)) (Nd Lf (some (.cells [.int .i64 k.1,.int .i64 k.2] 75)) Lf)) (some (dfO C [groS 2 F.length,groS 7 ac.length,groS 8 rw.length])) (Nd (Nd (Nd Lf (some (.gro (roV rw) [] 37)) Lf) (some (.gro (prs ks) [] 75)) Lf) (some (.gro (inV F) [] 3)) (Nd Lf (some (.gro (inV r) [] 3)) Lf))),9⟩
def E6(n i:Nat):T Value:=(Nd (Nd (Nd Lf (some (cSs 1)) Lf) none (Nd (Nd Lf (some (groP 4 n)) Lf) none Lf)) (some (.pointer (some ⟨0,0,none⟩))) (Nd (Nd (Nd Lf (some (.map (some 3))) Lf) none Lf) (some (cAs 1)) (Nd (Nd Lf (some (.int .i64 i)) Lf) none Lf)))
def E7(n nF nr i c:Nat):T Value:=(Nd (Nd (Nd Lf (some (cSs 1)) (Nd Lf (some (.pointer (some ⟨5,0,none⟩))) (Nd (Nd Lf (some (.int .i64 nF)) Lf) none Lf))) none (Nd (Nd Lf (some (groP 4 n)) Lf) none Lf)) (some (.pointer (some ⟨0,0,none⟩))) (Nd (Nd (Nd Lf (some (.map (some 3))) Lf) none (Nd Lf (some (groS 6 nr)) (Nd (Nd Lf (some (.int .i64 c)) Lf) none Lf))) (some (cAs 1)) (Nd (Nd Lf (some (.int .i64 i)) (Nd (Nd Lf (some (groS 2 nF)) Lf) none Lf)) none Lf)))
def jEs(K:KV)(C F:Le)(st:PR)(s:Int)(acc:Li)(nx:La):Prop:=bh XEx 1 f39 [.pointer (some ⟨0,0,none⟩),.agg ⟨[.int .i64 st.1,.int .i64 st.2]⟩,cAs 1,cSs 1] (hEs0 C F s acc nx) K
def jEsL(K:KV)(again:KF)(C0 F0 C F:Le)(ks:List PR)(ac:Li)(rw:La)(s:Int)(acc:Li)(nx:La)(i:Nat):Prop:=aI XEx 1 (Func.ntmps f39) (hEs0 C0 F0 s acc nx) (au f39) [1,1,1,1,0] (vY K) nsEx [.cell 0 258] [] [0,2,3,8,9,10] again (E6 ks.length i) (hEsL C F ks ac rw s acc nx)
def kEs2(K:KV)(again2:KF)(C0 F0:Le)(s:Int)(acc:Li)(nx:La):KX:=stepF XEx 1 (Func.ntmps f39) (hEs0 C0 F0 s acc nx) (au f39) [1,1,1,1,0] (vY K) nsEx [.cell 0 258] [] [0,2,3,8,9,10] again2
def jEsI(K:KV)(again2 again:KF)(C0 F0 C F:Le)(ks:List PR)(ac:Li)(rw:La)(k:PR)(r:Le)(s:Int)(acc:Li)(nx:La)(i c:Nat):Prop:=aI XEx 1 (Func.ntmps f39) (hEs0 C0 F0 s acc nx) (ak (subC [1,1,1,1,0] (au f39))) [1,0,0,1,1,0,1,0] (kEs2 K again2 C0 F0 s acc nx) [] [] [] [0,2,3,8,9,10,11,12,42,43,44] again (E7 ks.length F.length r.length i c) (hEsI C F ks ac rw k r s acc nx)
end
end Go.T9
namespace Go.T9
abbrev _root_.Go.IS:=@List.mem_iff_getElem
abbrev _root_.Go.JU:=@List.Pairwise.map
abbrev _root_.Go.JH:=@List.Pairwise.and_mem
section
variable {S:Type}[DecidableEq S]
variable {ks:List S}{N i:Nat}{st:S}{sc:S->List S}{P:S->Prop}
theorem kx(s:S):∀ (l q:List S),addS q (l++[s])=if s∈addS q l then addS q l else addS q l++[s]
 | [],q=>by by_cases h:s∈q<;>simp[addS,h]
 |x::l,q=>by simp only[HW,addS];split<;>exact kx s l _
def nums(ks l:List S):Le:=l.map λs=>((idN ks s:Nat):Int)
theorem mo{l:List S}(r:List S)(h:∀ s∈l,s∈ks):nums (ks++r) l=nums ks l:=by unfold nums;exact GT λs a=>by rw[pT r (h s a)]
theorem cN(ks l:List S):(nums ks l).length=l.length:=Gu _
def bA(sc:S->List S)(ks:List S)(i:Nat):La:=(ks.take i).map λk=>nums ks (sc k)
structure EI (sc:S->List S) (P:S->Prop) (N:Nat) (st:S) (ks:List S) (i:Nat):Prop where
 nd:ks.Nodup
 inp:∀ k∈ks,P k
 le:i<=ks.length
 hd:ks[0]? =some st
 cl:∀ j k,j<i->ks[j]? =some k->∀ s∈sc k,s∈ks
 fin:exS sc (N-i) ks i=exS sc N [st] 0
theorem EI.init(h:P st):EI sc P N st [st] 0:=
 ⟨by simp,λk a=>by simp at a;subst a;exact h,by simp,rfl,λj k b=>by omega,rfl⟩
theorem uQ{r:List S}(c:i<=ks.length)(h:∀ j k,j<i->ks[j]? =some k->∀ s∈sc k,s∈ks):bA sc (ks++r) i=bA sc ks i:=by unfold bA;rw[IU c];refine GT λk a=>?_;obtain⟨j,b,e⟩:=IS.1 a;rw[Hd]at b;refine mo r (h j k (by omega) ?_);rw[List.getElem_take]at e;rw[Gq (by omega),e]
theorem EI.step(h:EI sc P N st ks i)(o:∀ k,P k->∀ s∈sc k,P s){k:S}(c:ks[i]? =some k)(y:i<N):
 EI sc P N st (addS ks (sc k)) (i+1)/\bA sc (addS ks (sc k)) (i+1)=bA sc ks i++[nums (addS ks (sc k)) (sc k)]:=by
 have u:i<ks.length:=(Gw.1 c).1;have t:ks[i]=k:=(Gw.1 c).2;obtain⟨r,b⟩:=eG (sc k) ks;have g:∀ j d,j<i+1->(addS ks (sc k))[j]? =some d->∀ s∈sc d,s∈addS ks (sc k):=λj d w a s l=>by
  rw[b,He (by omega)]at a;rcases Hc j i with q|q;exact nA (h.cl j d q a s l);obtain rfl:j=i:=by omega
  rw[c]at a;cases a;exact gR l
 refine⟨⟨dQ h.nd,λx n=>?_,?_,?_,g,?_⟩,?_⟩;rcases fB n with q|q;exact h.inp x q;exact o k (h.inp k (GO c)) x q;rw[b,Gr];omega;rw[b,He (by omega)];exact h.hd;rw[<-h.fin];obtain⟨m,p⟩:∃ m,N-i=m+1:=⟨N-i-1,by omega⟩;rw[p,show N-(i+1)=m by omega];show _=(match ks[i]? with|none=>ks|some s=>exS sc m (addS ks (sc s)) (i+1));rw[c];have v:bA sc (addS ks (sc k)) i=bA sc ks i:=by rw[b];exact uQ h.le h.cl
 have f:i<(addS ks (sc k)).length:=by rw[b,Gr];omega
 have e:(addS ks (sc k))[i]=k:=by
  have:(addS ks (sc k))[i]? =some k:=by rw[b,He u];exact c
  exact(Gw.1 this).2
 rw[<-v];unfold bA;rw[GU f,List.map_append,e];rfl
theorem EI.done(h:EI sc P N st ks i)(c:ks.length<=i)(d:ks.length<N):i=ks.length/\ks=exS sc N [st] 0:=by
 have b:=h.le;have e:i=ks.length:=by omega
 refine⟨e,?_⟩;rw[<-h.fin];obtain⟨m,a⟩:∃ m,N-i=m+1:=⟨N-i-1,by omega⟩;rw[a];show _=(match ks[i]? with|none=>ks|some s=>exS sc m (addS ks (sc s)) (i+1));rw[Hs c]
end
theorem yB(l:List (Int×Int))(i:l.Nodup)(h:∀ k∈l,(0<=k.1/\k.1<300)/\0<=k.2/\k.2<300):l.length<=90000:=by have e:=cF 90000 (l.map λk=>k.1.toNat*300+k.2.toNat) ?_ λx f=>?_;simpa using e;refine JU _ ?_ (JH.1 i);rintro⟨a,b⟩ ⟨c,d⟩ ⟨e,h2,hne⟩ he;have m:=h _ e;have j:=h _ h2;dsimp only at m j he;exact hne (by rw[Gx];omega);obtain⟨k,g,rfl⟩:=Gv.1 f;have:=h k g;omega
end Go.T9
set_option maxHeartbeats 1000000
namespace Go.T9
open Go Go.AM Go.MK Go.Proofs.Tryz
noncomputable section
abbrev _root_.Go.I2:=@List.map_replicate
abbrev U':=λa b c d=>Value.slice (some ⟨a,b,none⟩) c d
variable {F:Lg}{ks l:List PR}{c n:Nat}
theorem L8(K:KV)(C:Le)(F:Le)(st:PR)(s:Int)(acc:Li)(nx:La):jEs K C F st s acc nx=(ba (SX.E XEx) 117 [] 0 (f_ [Vi (Prod.fst st),Vi (Prod.snd st)]) (Vi 0)=some ([(f_ [Vi (Prod.fst st),Vi (Prod.snd st)],Vi 0,0)],1)/\I_ C/\V' acc/\K9 nx/\I_ F/\J0 [Vi 0]/\J0 [f_ [Vi (Prod.fst st),Vi (Prod.snd st)]]/\Lp/\Lp/\LAtZ XEx 1 f39.ntmps (hEs0 C F s acc nx) (au f39) [1,1,1,1,0] (finK (SX.E XEx) f39.results.toList K) (Ns (No (Sg (o_ 40 [] [c_ 1 0])) (F_ (U' 4 0 1 18446744073709551621))) h_ (Ns (F_ (J_ 3)) (o_ 38 [] [c_ 1 0]) (F_ (Vi 0)))) (Q_ (Ns (Sg (Y' [(f_ [Vi (Prod.fst st),Vi (Prod.snd st)],Vi 0,0)] 1)) (l_ s acc nx) (K5 4)) (AObj.arr (inV C) [g_ 2 0 F.length,Kn 5 0,Kn 6 0] 256 71) (Ns (KG [f_ [Vi (Prod.fst st),Vi (Prod.snd st)]] 75) (e_ F) (K5 37)) 7)):=by kernel_rfl
theorem jEs_nf:type_of%(by have h:=@L8;revert h;delta b_ c_ e_ f_ g_ h_ k_ l_ o_ F_ I_ J_ Q_ V_ W_ U' V' Y' J0 Kn KG K5 K9 Lp;exact id):=@L8
abbrev O_:=λa=>k_ (roV a) 37
abbrev Z_:=λa=>k_ (blV a) 4
abbrev KZ:=λa b c d e f g=>Ns (No (Ns Lf (o_ 40 [] [c_ 1 0]) (Ns Lf a b)) (F_ (U' 4 0 c 18446744073709551621))) h_ (Ns (No (Sg (J_ 3)) (Ns Lf d e)) (o_ 38 [] [c_ 1 0]) (No (Ns Lf f g) Lf))
theorem L9(K:KV)(again:KF)(C0:Le)(F0:Le)(C:Le)(F:Le)(ks:List PR)(ac:Li)(rw:La)(s:Int)(acc:Li)(nx:La)(i:Nat):jEsL K again C0 F0 C F ks ac rw s acc nx i=(Sp (decide ((i:Int)<B_ ks.length)) ((0<=(i:Int)/\(i:Int)<B_ ks.length)/\nth (prs ks) i=some (f_ [Vi (Prod.fst (prAt (prs ks) i)),Vi (Prod.snd (prAt (prs ks) i))])/\(0<=B_ F.length/\B_ F.length<=B_ F.length/\B_ F.length<=281474976710656/\8*List.length F<=281474976710656)/\I_ C/\V' acc/\K9 nx/\I_ F/\J0 (mvl (enP (mkM ks)))/\J0 (prs ks)/\J0 (List.replicate F.length (Vi 0))/\J0 (blV ac)/\J0 (roV rw)/\LAtZ XEx 1 f39.ntmps (hEs0 C0 F0 s acc nx) (ak (subC [1,1,1,1,0] (au f39))) [1,0,0,1,1,0,1,0] (stepF XEx 1 f39.ntmps (hEs0 C0 F0 s acc nx) (au f39) [1,1,1,1,0] (vY K) nsEx [NPos.cell 0 258] [] [0,2,3,8,9,10] again) (KZ (c_ 5 0) (F_ (KM F.length)) ks.length (g_ 6 0 F.length) (F_ (Vi 0)) (Vi i) (F_ (g_ 2 0 F.length))) (Q_ (Ns (Kd (Sg (Z_ ac)) (Y' (enP (mkM ks)) ks.length)) (l_ s acc nx) (Ks [Vi (Prod.fst (prAt (prs ks) i)),Vi (Prod.snd (prAt (prs ks) i))] 75)) (AObj.arr (inV C) [g_ 2 0 F.length,g_ 7 0 ac.length,g_ 8 0 rw.length] 256 71) (Ns (Kd (Sg (O_ rw)) (k_ (prs ks) 75)) (e_ F) (KG (List.replicate F.length (Vi 0)) 3)) 9)) (K J6 (Q_ (Ns (Sg (Y' (enP (mkM ks)) ks.length)) (l_ s acc nx) (Sg (Z_ ac))) (AObj.arr (inV C) [g_ 2 0 F.length,g_ 5 0 ac.length,g_ 6 0 rw.length] 256 71) (Ns (KG (prs ks) 75) (e_ F) (Sg (O_ rw))) 7))):=by kernel_rfl
theorem DQ:type_of%(by have h:=@L9;revert h;delta b_ c_ e_ f_ g_ h_ k_ l_ n_ o_ B_ F_ I_ J_ O_ Q_ W_ Z_ U' V' Y' J0 J6 Kd Ks KG KM KZ K9;exact id):=@L9
abbrev LC:=λa b c=>f_ [Vi (stp a b c),Vi 0]
theorem Ma(K:KV)(again2:KF)(again:KF)(C0:Le)(F0:Le)(C:Le)(F:Le)(ks:List PR)(ac:Li)(rw:La)(k:PR)(r:Le)(s:Int)(acc:Li)(nx:La)(i c:Nat):jEsI K again2 again C0 F0 C F ks ac rw k r s acc nx i c=(Sp (decide ((c:Int)<B_ F.length)) ((0<=(c:Int)/\(c:Int)<B_ F.length)/\nth (inV F) c=some (Vi (P_ F c))/\HFs [O' acc,W_ nx,O' acc,W_ nx] (PH (Prod.fst (some (okO (l_ s acc nx) (s,u_ acc,p_ nx)/\inA (s,u_ acc,p_ nx) (Prod.fst k)/\0<=aa (inV F) c/\aa (inV F) (c:Int)<256),LC (p_ nx) (Prod.fst k) (z_ (P_ F c)),[l_ s acc nx])))/\cu (SX.E XEx) 117 (enP (mkM ks)) (LC (p_ nx) (Prod.fst k) (z_ (P_ F c)))=some (Vi (mgP (enP (mkM ks)) (LC (p_ nx) (Prod.fst k) (z_ (P_ F c)))),mhP (enP (mkM ks)) (LC (p_ nx) (Prod.fst k) (z_ (P_ F c))))/\Sp (! mhP (enP (mkM ks)) (LC (p_ nx) (Prod.fst k) (z_ (P_ F c)))) (ba (SX.E XEx) 117 (enP (mkM ks)) ks.length (LC (p_ nx) (Prod.fst k) (z_ (P_ F c))) (KM ks.length)=some (msP (enP (mkM ks)) (LC (p_ nx) (Prod.fst k) (z_ (P_ F c))) (KM ks.length),mnP (enP (mkM ks)) (LC (p_ nx) (Prod.fst k) (z_ (P_ F c))) (KM ks.length))/\(List.all [Vi (stp (p_ nx) (Prod.fst k) (z_ (P_ F c))),Vi 0] cellv=true/\List.length ks+0=List.length (prs ks)/\List.length ks+(1:Nat)<=(70368744177664:Nat)/\(List.length ks+1)*(16:Nat)<=(140737488355328:Nat))/\(0<=(c:Int)/\(c:Int)<B_ r.length)/\c<List.length (inV r)/\I_ C/\V' acc/\K9 nx/\I_ F/\J0 (mvl (msP (enP (mkM ks)) (LC (p_ nx) (Prod.fst k) (z_ (P_ F c))) (KM ks.length)))/\J0 (prs ks++[LC (p_ nx) (Prod.fst k) (z_ (P_ F c))])/\J0 (List.set (inV r) c (KM ks.length))/\J0 (blV ac)/\J0 (roV rw)/\again (KZ (c_ 5 0) (F_ (KM F.length)) (List.length ks+1) (g_ 6 0 r.length) (No (v_ ((c:Int)+1)) Lf) (Vi i) (F_ (g_ 2 0 F.length))) (Q_ (Ns (Kd (Sg (Z_ ac)) (Y' (msP (enP (mkM ks)) (LC (p_ nx) (Prod.fst k) (z_ (P_ F c))) (KM ks.length)) (mnP (enP (mkM ks)) (LC (p_ nx) (Prod.fst k) (z_ (P_ F c))) (KM ks.length)))) (l_ s acc nx) (Ks [Vi (Prod.fst k),Vi (Prod.snd k)] 75)) (AObj.arr (inV C) [g_ 2 0 F.length,g_ 7 0 ac.length,g_ 8 0 rw.length] 256 71) (Ns (Kd (Sg (O_ rw)) (k_ (prs ks++[LC (p_ nx) (Prod.fst k) (z_ (P_ F c))]) 75)) (e_ F) (KG (List.set (inV r) c (KM ks.length)) 3)) 9)) ((0<=(c:Int)/\(c:Int)<B_ r.length)/\c<List.length (inV r)/\I_ C/\V' acc/\K9 nx/\I_ F/\J0 (mvl (enP (mkM ks)))/\J0 (prs ks)/\J0 (List.set (inV r) c (Vi (mgP (enP (mkM ks)) (LC (p_ nx) (Prod.fst k) (z_ (P_ F c))))))/\J0 (blV ac)/\J0 (roV rw)/\again (KZ (c_ 5 0) (F_ (KM F.length)) ks.length (g_ 6 0 r.length) (No (v_ ((c:Int)+1)) Lf) (Vi i) (F_ (g_ 2 0 F.length))) (Q_ (Ns (Kd (Sg (Z_ ac)) (Y' (enP (mkM ks)) ks.length)) (l_ s acc nx) (Ks [Vi (Prod.fst k),Vi (Prod.snd k)] 75)) (AObj.arr (inV C) [g_ 2 0 F.length,g_ 7 0 ac.length,g_ 8 0 rw.length] 256 71) (Ns (Kd (Sg (O_ rw)) (k_ (prs ks) 75)) (e_ F) (KG (List.set (inV r) c (Vi (mgP (enP (mkM ks)) (LC (p_ nx) (Prod.fst k) (z_ (P_ F c)))))) 3)) 9))) ((List.all [g_ 6 0 r.length] cellv=true/\List.length rw+0=List.length (roV rw)/\List.length rw+(1:Nat)<=(70368744177664:Nat)/\(List.length rw+1)*(24:Nat)<=(140737488355328:Nat))/\HFs [O' acc,W_ nx,O' acc,W_ nx] (PH (Prod.fst (some (okO (l_ s acc nx) (s,u_ acc,p_ nx)/\inA (s,u_ acc,p_ nx) (Prod.fst k)),Value.bool (acS (s,u_ acc,p_ nx) k),[l_ s acc nx])))/\Value.slice (some ⟨7,0,none⟩) ac.length 18446744073709551620=Value.slice (some ⟨7,0,none⟩) ac.length 18446744073709551620/\(List.all [Value.bool (acS (s,u_ acc,p_ nx) k)] cellv=true/\List.length ac+0=List.length (blV ac)/\List.length ac+(1:Nat)<=(70368744177664:Nat)/\(List.length ac+1)*(1:Nat)<=(140737488355328:Nat))/\List.length (inV r)=List.length r/\I_ C/\V' acc/\K9 nx/\I_ F/\J0 (mvl (enP (mkM ks)))/\J0 (prs ks)/\J0 (blV ac++[Value.bool (acS (s,u_ acc,p_ nx) k)])/\J0 (roV rw++[Vd 1 (inV r)])/\again2 (Ns (No (Sg (o_ 40 [] [c_ 1 0])) (F_ (U' 4 0 ks.length 18446744073709551621))) h_ (Ns (F_ (J_ 3)) (o_ 38 [] [c_ 1 0]) (No (v_ ((i:Int)+1)) Lf))) (Q_ (Ns (Sg (Y' (enP (mkM ks)) ks.length)) (l_ s acc nx) (KG (blV ac++[Value.bool (acS (s,u_ acc,p_ nx) k)]) 4)) (AObj.arr (inV C) [g_ 2 0 F.length,g_ 5 0 (List.length ac+1),g_ 6 0 (List.length rw+1)] 256 71) (Ns (KG (prs ks) 75) (e_ F) (KG (roV rw++[Vd 1 (inV r)]) 37)) 7))):=by kernel_rfl
theorem DR:type_of%(by have h:=@Ma;revert h;delta b_ c_ e_ f_ g_ h_ k_ l_ n_ o_ p_ u_ v_ z_ B_ F_ I_ J_ O_ P_ Q_ W_ Z_ O' U' V' Y' J0 Kd Ks KG KM KZ K9 LC;exact id):=@Ma
theorem mhP_e(ks:List PR)(k:PR):mhP (enP (mkM ks)) (prV k)=decide (k∈ks):=by unfold mhP;rw[invP];show(aget (mkM ks) k).isSome=_;rw[ia];by_cases h:k∈ks<;>simp[h]
theorem mgP_e(ks:List PR)(k:PR)(h:k∈ks):mgP (enP (mkM ks)) (prV k)=(idN ks k:Nat):=by unfold mgP;rw[invP];show(aget (mkM ks) k).getD 0=_;rw[ia,E' h];rfl
theorem msP_e(ks:List PR)(k:PR)(h:¬ k∈ks):msP (enP (mkM ks)) (prV k) (.int .i64 (ks.length:Nat))=enP (mkM (ks++[k])):=by unfold msP;rw[invP];show enP (aset (mkM ks) k ((ks.length:Nat):Int))=_;rw[dV h]
theorem mnP_e(ks:List PR)(k:PR)(h:¬ k∈ks):mnP (enP (mkM ks)) (prV k) (.int .i64 (ks.length:Nat))=(ks++[k]).length:=by unfold mnP;rw[invP];show(aset (mkM ks) k ((ks.length:Nat):Int)).length=_;rw[dV h,dC]
theorem updP_e(ks:List PR)(k:PR)(h:¬ k∈ks):ba env 117 (enP (mkM ks)) ks.length (prV k) (.int .i64 (ks.length:Nat))=some (enP (mkM (ks++[k])),(ks++[k]).length):=by have:=updP (mkM ks) k (ks.length:Nat);rw[dC,dV h,dC]at this;exact this
theorem pS{S:Type}[DecidableEq S]{s:S}:∀ {ks:List S},¬s∈ks->idN (ks++[s]) s=ks.length
 | [],_=>by simp[idN]
 |x::l,h=>by have a:¬ x=s:=λe=>h (by simp[e]);have b:¬ s∈l:=λe=>h (by simp[e]);simp only[HW,idN,C' a,GR,pS b]
theorem CT(l:List PR):(prs l).length=l.length:=Gu _
theorem CU(l r:List PR):prs l++prs r=prs (l++r):=by unfold prs;rw[List.map_append]
theorem pg(l:List PR):HF (.agg ⟨prs l⟩):=.agg λx a=>by obtain⟨k,_,rfl⟩:=Gv.1 a;exact .agg (HF.cons (HFi _ _) (HF.cons (HFi _ _) HF.nil))
theorem vo{i:Nat}(h:i<l.length):nth (prs l) i=some (prV l[i]):=by rw[aS];simp[prs,h]
theorem yv{i:Nat}(h:i<l.length):prAt (prs l) (i:Int)=l[i]:=by unfold prAt;rw[Gs,vo h];rfl
theorem aC(l:Li):HF (.agg ⟨blV l⟩):=.agg (aN l)
theorem aH(l:La):HF (.agg ⟨roV l⟩):=.agg (aK l)
theorem nk(l:Li)(b:Bool):blV l++[.bool b]=blV (l++[b]):=by unfold blV;rw[List.map_append];rfl
theorem eQ(l:La)(r:Le):roV l++[dat 1 (inV r)]=roV (l++[r]):=by unfold roV;rw[List.map_append];rfl
theorem jE(A:Le)(m:Nat)(x:Int)(h:0<m):(A++List.replicate m 0).set A.length x=(A++[x])++List.replicate (m-1) 0:=by obtain⟨m,rfl⟩:∃ j,m=j+1:=⟨m-1,by omega⟩;rw[I3 _ _ (GE _),Il,IC,List.set_cons_zero,Nat.add_sub_cancel,Hw];rfl
theorem e7(n:Nat):List.replicate n (Value.int .i64 0)=inV (List.replicate n 0):=by unfold inV;rw[I2]
def inF(F:Lg):Le:=F.map Int.ofNat
theorem ao(F:Lg):(inF F).length=F.length:=Gu _
theorem bF(h:c<F.length):(inF F)[c]'(by rw[ao];exact h)=(F[c]:Int):=by simp[inF]
def scF(F:Lg)(f:PR->Nat->PR)(k:PR):List PR:=F.map (f k)
def inS(a:AU)(k:PR):Prop:=inA a k.1/\k.2=0
theorem rP{a:AU}(h:OkA a)(l:List PR)(e:l.Nodup)(b:∀ k∈l,inS a k):l.length<=90000:=yB l e λk d=>by obtain⟨⟨i,g⟩,f⟩:=b k d;have:=h.n1;omega
theorem mC{a:AU}(h:OkA a)(f:∀ c∈F,c<256)(k:PR)(b:inS a k):∀ s∈scF F (stS a) k,inS a s:=λs d=>by obtain⟨c,e,rfl⟩:=Gv.1 d;exact⟨iz h b.1.1 b.1.2 (f c e),rfl⟩
def rowC(ks l:List PR)(n c:Nat):Le:=nums ks l++List.replicate (n-c) 0
theorem lV(h:l.length=c)(a:c<=n):(rowC ks l n c).length=n:=by unfold rowC;rw[Gr,cN,Hi];omega
theorem ym{s:PR}(h:l.length=c)(g:c<n)(d:∀ x∈l,x∈ks)(b:¬ s∈ks):(rowC ks l n c).set c (ks.length:Nat)=rowC (ks++[s]) (l++[s]) n (c+1):=by
 unfold rowC;have a:=cN ks l;rw[h]at a;have:=jE (nums ks l) (n-c) (ks.length:Nat) (by omega);rw[a]at this;rw[this];have e:nums (ks++[s]) (l++[s])=nums ks l++[((ks.length:Nat):Int)]:=by have f:nums (ks++[s]) (l++[s])=nums (ks++[s]) l++nums (ks++[s]) [s]:=List.map_append;rw[f,mo [s] d];show _++[((idN (ks++[s]) s:Nat):Int)]=_;rw[pS b]
 rw[e,show n-c-1=n-(c+1)by omega]
theorem yl{s:PR}(h:l.length=c)(b:c<n):(rowC ks l n c).set c (idN ks s:Nat)=rowC ks (l++[s]) n (c+1):=by unfold rowC;have a:=cN ks l;rw[h]at a;have:=jE (nums ks l) (n-c) (idN ks s:Nat) (by omega);rw[a]at this;rw[this];have e:nums ks (l++[s])=nums ks l++[((idN ks s:Nat):Int)]:=List.map_append;rw[e,show n-c-1=n-(c+1)by omega]
theorem yn(ks l:List PR)(n:Nat):rowC ks l n n=nums ks l:=by unfold rowC;simp
theorem lN{f:Nat->PR}(h:c<F.length):(F.take (c+1)).map f=(F.take c).map f++[f F[c]]:=by rw[GU h,List.map_append];rfl
theorem zO(K:KV)(again2:KF)(P O C:Le)(F:Lg)(R:∀ c∈F,c<256)(a0:F.length<=256){a:AU}(E:OkA a)(e:List PR)(S:e.Nodup)(I:∀ k∈e,inS a k)(k:PR)(N:inS a k)(ac:Li)(h:La)(Z:ac.length<=90000)(U:h.length<=90000)(i:Nat)(hi:i<=90000)
 (v:again2 (E6 (addS e (scF F (stS a) k)).length (i+1)) (hEsL C (inF F) (addS e (scF F (stS a) k)) (ac++[acS a k]) (h++[nums (addS e (scF F (stS a) k)) (scF F (stS a) k)]) a.1 a.2.1 a.2.2)):
 LAtZ XEx 1 (Func.ntmps f39) (hEs0 P O a.1 a.2.1 a.2.2) (ak (subC [1,1,1,1,0] (au f39))) [1,0,0,1,1,0,1,0] (kEs2 K again2 P O a.1 a.2.1 a.2.2) (E7 e.length (inF F).length (rowC e [] F.length 0).length i 0) (hEsI C (inF F) e ac h k (rowC e [] F.length 0) a.1 a.2.1 a.2.2):=by
 obtain⟨s,d,f⟩:=a;have o:=ao F;refine LAtZ.stepF xX [] [] [] [0,2,3,8,9,10,11,12,42,43,44] (by kernel_rfl) (λm G A=>∃ c:Nat,G=E7 (addS e ((F.take c).map (stS (s,d,f) k))).length (inF F).length (rowC (addS e ((F.take c).map (stS (s,d,f) k))) ((F.take c).map (stS (s,d,f) k)) F.length c).length i c/\A=hEsI C (inF F) (addS e ((F.take c).map (stS (s,d,f) k))) ac h k (rowC (addS e ((F.take c).map (stS (s,d,f) k))) ((F.take c).map (stS (s,d,f) k)) F.length c) s d f/\c+m=F.length) ?_ (k:=F.length) ⟨0,rfl,rfl,by omega⟩;rintro m G A ⟨c,rfl,rfl,Y⟩;generalize z:(F.take c).map (stS (s,d,f) k)=l;generalize t:addS e l=ks;have r:l.length=c:=by rw[<-z,Gu,Hd];omega
 have L:∀ x∈l,x∈ks:=λx H=>by rw[<-t];exact gR H
 have J:ks.Nodup:=by rw[<-t];exact dQ S
 have B:∀ x∈ks,inS (s,d,f) x:=λx H=>by rw[<-t]at H;rcases fB H with q|q;exact I x q;rw[<-z]at q;obtain⟨b,Q,rfl⟩:=Gv.1 q;exact mC E R k N _ (Gv.2 ⟨b,H6 Q,rfl⟩)
 have X:ks.length<=90000:=rP E ks J B;have w:=lV (ks:=ks) (n:=F.length) r (by omega);refine(DR _ _ _ P O C (inF F) ks ac h k (rowC ks l F.length c) s d f i c).mpr (Sp.intro (λq=>?_) (λq=>?_));have q:=odt q;rw[o]at q;have y:c<F.length:=by omega
 have D:c<(inF F).length:=by rw[o];exact y
 have Q:F[c]<256:=R _ (Gy y);have j:=kx (stS (s,d,f) k F[c]) l e;rw[t]at j;have u:(F.take (c+1)).map (stS (s,d,f) k)=l++[stS (s,d,f) k F[c]]:=by rw[lN y,z]
 rw[aq D,bF y,Gs,cx,bX,w,o];have es:Value.agg (Array.mk [Vi (stp f (Prod.fst k) F[c]),Vi 0])=prV (stS (s,d,f) k F[c]):=rfl;rw[es,mhP_e];refine⟨⟨by omega,q⟩,by have:=aP D;rw[bF y]at this;exact this,⟨.dat (aN _),.dat (aK _),.dat (aN _),.dat (aK _),⟨rfl,E⟩,N.1,by omega,by omega⟩,(lookP _ _).trans (by rw[mhP_e]),Sp.intro (λg=>?_) (λg=>?_)⟩;have g:¬ stS (s,d,f) k F[c]∈ks:=by simpa using g
 rw[C' g]at j;have ep:[prV (stS (s,d,f) k F[c])]=prs [stS (s,d,f) k F[c]]:=rfl;rw[msP_e _ _ g,mnP_e _ _ g,ep,CU,ce,ym r y L g,aA (x:=(c:Int)+1) (by omega) (by omega)];refine⟨updP_e _ _ g,⟨rfl,by rw[CT];omega,by omega,by omega⟩,⟨by omega,by omega⟩,by rw[ah,w];omega,ab _,.dat (aN _),.dat (aK _),ab _,sQ _,pg _,ab _,aC _,aH _,m-1,by omega,c+1,?_,?_,by omega⟩;rw[u,j];have p:=lV (ks:=ks++[stS (s,d,f) k F[c]]) (l:=l++[stS (s,d,f) k F[c]]) (n:=F.length) (c:=c+1) (by rw[Gr,r];rfl) (by omega);rw[p,Gr];rfl;rw[u,j];unfold hEsI;rw[o];rfl;have g:stS (s,d,f) k F[c]∈ks:=by simpa using g
 rw[E' g]at j;rw[mgP_e _ _ g,ce,yl r y,aA (x:=(c:Int)+1) (by omega) (by omega)];refine⟨⟨by omega,by omega⟩,by rw[ah,w];omega,ab _,.dat (aN _),.dat (aK _),ab _,sQ _,pg _,ab _,aC _,aH _,m-1,by omega,c+1,?_,?_,by omega⟩;rw[u,j];have p:=lV (ks:=ks) (l:=l++[stS (s,d,f) k F[c]]) (n:=F.length) (c:=c+1) (by rw[Gr,r];rfl) (by omega);rw[p];rfl;rw[u,j];unfold hEsI;rw[o];rfl;have q:=odf q;rw[o]at q;obtain rfl:c=F.length:=by omega
 rw[Hh]at z;have M:l=scF F (stS (s,d,f)) k:=z.symm;rw[<-M,t]at v;rw[yn,cx,bX,nk,aA (x:=(i:Int)+1) (by omega) (by omega)];have V:=cN ks l;refine⟨⟨rfl,by rw[aL];omega,by omega,by omega⟩,⟨.dat (aN _),.dat (aK _),.dat (aN _),.dat (aK _),⟨rfl,E⟩,N.1⟩,rfl,⟨rfl,by rw[bc];omega,by omega,by omega⟩,by rw[ah],ab _,.dat (aN _),.dat (aK _),ab _,sQ _,pg _,aC _,?_,?_⟩;exact(eQ h (nums ks l))▸aH _;have e1:roV h++[Vd 1 (inV (nums ks l))]=roV (h++[nums ks l]):=eQ _ _;rw[e1];unfold hEsL at v;rw[Gr,Gr]at v;exact v
theorem rowC_0(ks:List PR)(n:Nat):rowC ks [] n 0=List.replicate n 0:=rfl
def reS(F:Lg)(a:AU):List PR:=exS (scF F (stS a)) 90001 [(a.1,0)] 0
def hEsE(C F:Le)(ac:Li)(rw:La)(s:Int)(acc:Li)(nx:La):AH:=⟨(Nd (Nd (Nd Lf (some (.gro (blV ac) [] 4)) Lf) (some (auC s acc nx)) Lf) (some (dfO C [groS 2 F.length,groS 3 ac.length,groS 4 rw.length])) (Nd (Nd Lf (some (.gro (roV rw) [] 37)) Lf) (some (.gro (inV F) [] 3)) Lf)),5⟩
theorem end_es(Q:Value->AH->Prop)(b a C F:Le)(ks:List PR)(ac:Li)(rw:La)(s:Int)(acc:Li)(nx:La):endF env (hEs0 b a s acc nx) [] [] [] Q (.tuple ⟨[]⟩) (hEsL C F ks ac rw s acc nx)=(HF (.agg ⟨inV C⟩)/\HF (dat 1 (blV acc))/\HF (dat 1 (roV nx))/\HF (.agg ⟨inV F⟩)/\HF (.agg ⟨blV ac⟩)/\HF (.agg ⟨roV rw⟩)/\Q (.tuple ⟨[]⟩) (hEsE C F ac rw s acc nx)):=by kernel_rfl
theorem Fh(C:Le)(F:Lg)(B:∀ c∈F,c<256)(x:F.length<=256){a:AU}(p:OkA a):WalkF env f39 [.pointer (some ⟨0,0,none⟩),prV (a.1,0),cAs 1,cSs 1] (hEs0 C (inF F) a.1 a.2.1 a.2.2) (.tuple ⟨[]⟩) (hEsE C (inF F) ((reS F a).map (acS a)) (bA (scF F (stS a)) (reS F a) (reS F a).length) a.1 a.2.1 a.2.2):=by
 obtain⟨s,b,e⟩:=a;have o:=ao F;have t:=p.st;refine aJ xX (d:=1) (ns:=[]) (zs:=[]) (ws:=[]) ((jEs_nf _ C (inF F) (s,0) s b e).mpr ⟨?_,ab _,.dat (aN _),.dat (aK _),ab _,ab [0],pg [(s,0)],aC [],aH [],?_⟩);have:=updP ([]:List (PR×Int)) (s,0) 0;exact this;refine LAtZ.stepF xX nsEx [.cell 0 258] [] [0,2,3,8,9,10] (by kernel_rfl) (λm G A=>∃ (i:Nat) (ks:List PR),G=E6 ks.length i/\A=hEsL C (inF F) ks ((ks.take i).map (acS (s,b,e))) (bA (scF F (stS (s,b,e))) ks i) s b e/\EI (scF F (stS (s,b,e))) (inS (s,b,e)) 90001 (s,0) ks i/\i+m=90001) ?_ (k:=90001) ⟨0,[(s,0)],rfl,rfl,EI.init ⟨t,rfl⟩,by omega⟩;rintro m G A ⟨i,ks,rfl,rfl,f,I⟩;have E:ks.length<=90000:=rP p ks f.nd f.inp;have J:=f.le;refine(DQ _ _ C (inF F) C (inF F) ks _ _ s b e i).mpr (Sp.intro (λq=>?_) (λq=>?_));have q:=odt q;have j:i<ks.length:=by omega
 have H:=f.inp _ (Gy j);have w:ks[i]? =some ks[i]:=Gq j;obtain⟨y,h⟩:=f.step (mC p B) w (by omega);have v:((ks.take i).map (acS (s,b,e))).length=i:=by rw[Gu,Hd];omega
 have u:(bA (scF F (stS (s,b,e))) ks i).length=i:=by unfold bA;rw[Gu,Hd];omega
 rw[yv j,o];refine⟨⟨by omega,q⟩,vo j,⟨by omega,by omega,by omega,by omega⟩,ab _,.dat (aN _),.dat (aK _),ab _,sQ _,pg _,?_,aC _,aH _,?_⟩;rw[e7];exact ab _;have g:=λ(K:KV) (M:KF)=>zO K M C (inF F) C F B x p ks f.nd f.inp ks[i] H ((ks.take i).map (acS (s,b,e))) (bA (scF F (stS (s,b,e))) ks i) (by rw[v];omega) (by rw[u];omega) i (by omega);simp only[rowC_0,Hi,hEsI,o]at g;rw[e7];refine g _ _ ?_;refine⟨m-1,by omega,i+1,addS ks (scF F (stS (s,b,e)) ks[i]),rfl,?_,y,by omega⟩;rw[h];obtain⟨r,D⟩:=eG (scF F (stS (s,b,e)) ks[i]) ks;have z:((addS ks (scF F (stS (s,b,e)) ks[i])).take (i+1)).map (acS (s,b,e))=(ks.take i).map (acS (s,b,e))++[acS (s,b,e) ks[i]]:=by rw[D,IU (by omega),GU j,List.map_append];rfl
 rw[z];have q:=odf q;obtain⟨L,z⟩:=f.done (by omega) (by omega);subst L;refine(end_es _ C (inF F) C (inF F) ks _ _ s b e).mpr ⟨ab _,.dat (aN _),.dat (aK _),ab _,aC _,aH _,rfl,?_⟩;rw[Hh,z];rfl
end
end Go.T9
