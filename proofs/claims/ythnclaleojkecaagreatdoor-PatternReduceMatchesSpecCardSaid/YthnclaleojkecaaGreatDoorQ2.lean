/- A part of the proof. -/
import Derived.Test.YthnclaleojkecaaGreatDoorQ1
import Derived.Test.YthnclaleojkecaaGreatDoorX2
import Derived.Test.YthnclaleojkecaaGreatDoorX4
import Derived.Test.YthnclaleojkecaaGreatDoorX1
import Derived.Test.YthnclaleojkecaaGreatDoorY2
import Derived.Test.YthnclaleojkecaaGreatDoorY1
import Derived.Test.YthnclaleojkecaaGreatDoorC
import Derived.Test.YthnclaleojkecaaGreatDoorF2
import Derived.KernelRfl
set_option linter.unusedVariables false
set_option linter.unusedSimpArgs false
set_option linter.unusedSectionVars false
set_option maxRecDepth 1000000
set_option maxHeartbeats 400000
namespace Go.T9
open Go Go.AM Go.MK Go.HK Go.Proofs.Tryz
noncomputable section
theorem MY(K:KV)(s:Int)(acc:Li)(nx:La)(e:Int):jTd K s acc nx e=(HFs [JF acc,U' nx,Value.agg ⟨[]⟩,f_ (u8v (auT [] (s,w_ acc,r_ nx)))] (PH (Prod.fst (some ((([]:Lh)=[]/\([]:Lh)=[]/\(0:Nat)=(0:Nat))/\(Value.agg (Array.mk [Vi s,JF acc,U' nx])=Value.agg (Array.mk [Vi s,JF (w_ acc),U' (r_ nx)])/\TOk (s,w_ acc,r_ nx))/\(0:Nat)<=(1000:Nat)),JN,[m_ [g_ 2 0 (i_ (auT [] (s,w_ acc,r_ nx)))] 45,AObj.dead,k_ (u8v (auT [] (s,w_ acc,r_ nx))) 5])))/\HFs [f_ (u8v (auT [] (s,w_ acc,r_ nx))),f_ (u8v (JH (auT [] (s,w_ acc,r_ nx)) e))] (PH (Prod.fst (some ((([]:Lh)=[]/\u8v (auT [] (s,w_ acc,r_ nx))=u8v (I_ (auT [] (s,w_ acc,r_ nx)))/\List.length (auT [] (s,w_ acc,r_ nx))=List.length (u8v (auT [] (s,w_ acc,r_ nx))))/\(0<=e/\e<301)/\List.length (u8v (auT [] (s,w_ acc,r_ nx)))<=1000000000),JN,[m_ [g_ 2 0 (i_ (JH (auT [] (s,w_ acc,r_ nx)) e))] 45,AObj.dead,k_ (u8v (JH (auT [] (s,w_ acc,r_ nx)) e)) 5])))/\IsB (u8v (JH (auT [] (s,w_ acc,r_ nx)) e)) 0 (i_ (JH (auT [] (s,w_ acc,r_ nx)) e))/\K (Vs (av (u8L (u8v (JH (auT [] (s,w_ acc,r_ nx)) e)) 0 (i_ (JH (auT [] (s,w_ acc,r_ nx)) e))))) (R_ (JR (Sg AObj.dead) (m_ [g_ 4 0 (i_ (JH (auT [] (s,w_ acc,r_ nx)) e))] 45)) (u_ s acc nx) (Ns (JY (u8v (JH (auT [] (s,w_ acc,r_ nx)) e)) 5) AObj.dead Lf) 5)):=by kernel_rfl
theorem jTd_nf:type_of%(by have h:=@MY;revert h;delta b_ f_ g_ i_ k_ m_ r_ u_ w_ x_ I_ R_ U' JF JH JN JR JY;exact id):=@MY
theorem XTd_ok:XTd.Ok:=⟨ak,aF,ap,.cons at_tab (.cons rC .nil)⟩
def tdT(a:AU)(e:Int):LB:=ikT (auT [] a) e.toNat
theorem BP{a:AU}(h:TOk a){e:Int}(f:0<=e/\e<301):Walk env f7 [auV a,.int .i64 e] (.string (av (tdT a e))):=by
 have j:(auT [] a).length<=400000:=by have q:=pZ a.2.2 (ikT (bsT (ikT [] a.1.toNat) a.2.1) a.2.2.length) λr c=>(h.row r c).1;have p:=dW (bsT (ikT [] a.1.toNat) a.2.1) a.2.2.length;have o:=xo (ikT [] a.1.toNat) a.2.1;have n:=dW [] a.1.toNat;have m:([]:LB).length=0:=rfl;have l:=h.acc;have k:=h.nx;unfold auT;omega
 unfold tdT;refine frzR XTd_ok (d:=3) ((jTd_nf _ a.1 a.2.1 a.2.2 e).mpr ?_);rw[cG,cg];have g:((a.1,a.2.1,a.2.2):AU)=a:=rfl;rw[g,jd];have b:∀ T:LB,(u8v T).length=T.length:=λT=>F7 _;generalize auT [] a=t0 at*;obtain⟨i,b2⟩:=isB_u (ikT t0 e.toNat);rw[b2];have l0:=b t0;refine⟨⟨.dat (aP _),.dat (aM _),aU [],aU _,⟨⟨rfl,rfl,rfl⟩,⟨rfl,h⟩,by omega⟩⟩,⟨aU _,aU _,⟨⟨rfl,rfl,by omega⟩,f,by omega⟩⟩,i,.same (.scal rfl)⟩
def tdXG(g:AU->Int->LB):Lh->Lj
 | [v,.int .i64 e]=>(match auQ v with|some a=>some (.string (av (g a e)))|none=>none)
 |_=>none
def tdP:Lh->Ll
 | [v,.int .i64 e]=>some ((v=auV (auD v)/\TOk (auD v))/\0<=e/\e<301)
 |_=>none
theorem td_tab:∀ args A p v A',bN tdP (tdXG tdT) args A=some (p,v,A')->PH p->CallAt env 7 args A v A':=de ak ap (fn:=f7) rfl λargs v h c=>by unfold tdXG at h;split at h;rename_i u e;obtain⟨⟨b,g⟩,f⟩:(u=auV (auD u)/\TOk (auD u))/\0<=e/\e<301:=c;split at h;rename_i a d;cases h;rw[kg b d];have:=BP g f;rw[<-b]at this;exact⟨HF.cons (by rw[b];exact np _) (HF.cons (HFi _ _) HF.nil),this⟩;cases h;cases h
def rdXG(f:AU->AU×Int):Lh->Lj
 | [v]=>(match auQ v with|some a=>some (auE (f a).1 (f a).2)|none=>none)
 |_=>none
theorem Aq{f:FuncId}{fn:Func}(b:env.fn f=some fn)(d:∀ a,WfA a->Walk env fn [auV a] (auE (rdI a).1 (rdI a).2)):∀ args A p v A',bN caP (rdXG rdI) args A=some (p,v,A')->PH p->CallAt env f args A v A':=de ak ap b λargs v h e=>by unfold rdXG at h;split at h;rename_i u;obtain⟨c,i⟩:WfV u:=e;split at h;rename_i a g;cases h;rw[kg c g];have:=d _ i;rw[<-c]at this;exact⟨HF.cons (by rw[c];exact np _) HF.nil,this⟩;cases h;cases h
theorem rd_tab:∀ args A p v A',bN caP (rdXG rdI) args A=some (p,v,A')->PH p->CallAt env 8 args A v A':=Aq (fn:=f8) rfl λa h=>CG h
theorem rr_tab:∀ args A p v A',bN caP (rdXG rdI) args A=some (p,v,A')->PH p->CallAt env 9 args A v A':=Aq (fn:=f9) rfl λa h=>Cx h
end
end Go.T9
set_option maxRecDepth 100000
namespace Go.T9
open Go.HK
section
variable {δ :Nat->Nat->Nat}{n x0:Nat}{acc:Nat->Bool}
def rfP(δ :Nat->Nat->Nat)(acc:Nat->Bool)(x0:Nat)(k:Nat):Prop:=∃ s∈rfL δ x0,rfC δ acc x0 s=k
theorem RA.num(h:RA δ n x0):(∀a b,rfP δ acc x0 a->rfP δ acc x0 b->bW δ id acc (repM (rfL δ x0) (rfC δ acc x0) a)=bW δ id acc (repM (rfL δ x0) (rfC δ acc x0) b)->a=b)/\
 (∀b,rfP δ acc x0 b->(rfSc δ acc x0 b).map (λk=>bW δ id acc (repM (rfL δ x0) (rfC δ acc x0) k))=scL 256 (bW δ id acc (repM (rfL δ x0) (rfC δ acc x0) b)))/\
 (∀b,rfP δ acc x0 b->∀ x∈rfSc δ acc x0 b,rfP δ acc x0 x):=j7 h.cl (h.cls acc)
theorem RA.ei2(h:RA δ n x0)(acc:Nat->Bool):EI (rfSc δ acc x0) (rfP δ acc x0) 90001 (rfC δ acc x0 x0) (rfO δ acc x0) (rfO δ acc x0).length:=by
 have f:=h.n1;have d:=h.len;have:=EI.run (sc:=rfSc δ acc x0) (P:=rfP δ acc x0) (N:=90001) (st:=rfC δ acc x0 x0) (h.num).2.2 (λl hd b=>by
  have:=ct (l:=l) (m:=(rfL δ x0).map (rfC δ acc x0)) hd λk c=>by obtain⟨s,a,e⟩:=b k c;exact F8.2 ⟨s,a,e⟩
  rw[F7]at this;omega) 90001 (EI.init ⟨x0,h.mem,rfl⟩) rfl
 rw[jY]at this;exact this
def stM(δ :Nat->Nat->Nat)(acc:Nat->Bool)(x0 k c:Nat):Nat:=rfC δ acc x0 (δ (repM (rfL δ x0) (rfC δ acc x0) k) c)
def acM(δ :Nat->Nat->Nat)(acc:Nat->Bool)(x0 k:Nat):Bool:=acc (repM (rfL δ x0) (rfC δ acc x0) k)
theorem vI{S:Type}[DecidableEq S](st:S->Nat->S)(ac:S->Bool)(k:S):iI st ac k []=ac k:=rfl
theorem tn{S:Type}[DecidableEq S](st:S->Nat->S)(ac:S->Bool)(k:S)(c:Nat)(w:Lg):iI st ac k (c::w)=iI st ac (st k (c%256)) w:=rfl
theorem tp(δ :Nat->Nat->Nat)(acc:Nat->Bool)(x c:Nat)(w:Lg):bW δ id acc x (c::w)=bW δ id acc (δ x c) w:=rfl
theorem RA.lang2(h:RA δ n x0):∀ (w:Lg) (k:Nat),rfP δ acc x0 k->iI (stM δ acc x0) (acM δ acc x0) k w=bW δ id acc (repM (rfL δ x0) (rfC δ acc x0) k) w:=by
 have e:=h.cl;have d:=h.cls acc;have a:=h.per;unfold rfP stM acM;generalize rfL δ x0=l at*;generalize rfC δ acc x0=cl at*;intro w;induction w with
 |nil=>intro k _;rw[vI,jN]
 |cons c w j=>intro k m;obtain⟨f,o⟩:=fD m;have b:=e _ f (c%256);obtain⟨i,g⟩:=fD (l:=l) (cl:=cl) ⟨_,b,rfl⟩;rw[tn,tp,j _ ⟨_,b,rfl⟩,a _ c];exact congrFun ((d _ i _ b).1 g) w
def c256:Le:=(List.range 256).map Int.ofNat
theorem xl(c:Nat):clN c256 c=c%256:=by unfold clN c256;rw[Gf,Gv,List.getElem?_range (HQ _ (by decide))];rfl
def lsAU(δ :Nat->Nat->Nat)(acc:Nat->Bool)(x0:Nat):AU:=(0,rfA δ acc x0,(rfT δ acc x0).map λr=>r.map Int.ofNat)
theorem qI(δ :Nat->Nat->Nat):∀ (w:Lg) (x:Nat),runW (λx c=> δ x (c%256)) x w=runW δ x (w.map λc=>c%256)
 | [],x=>rfl
 |c::w,x=>qI δ w (δ x (c%256))
theorem zf{S:Type}[DecidableEq S]{st:S->Nat->S}{P:S->Prop}{N:Nat}{a:S}{ks:List S}(h:EI (λk=>(List.range 256).map (st k)) P N a ks ks.length)(ac:S->Bool):
 tq (0,ks.map ac,bz (λk=>(List.range 256).map (st k)) ks ks.length)=iI st ac a:=by
 have b:=h.hd;have f:a∈ks:=Gt b;have g:idN ks a=0:=by
  cases ks with
  |nil=>simp at b
  |cons x ks=>simp at b;subst b;simp[idN]
 funext w;have:=mh (C:=c256) h (λc d=>⟨c,by have e:=xl c;unfold clN at e;rw[H7 d]at e;rw[e,List.getElem?_range d],λ_ _=>rfl⟩) ac w f
 rw[g]at this;rw[<-this];unfold tq bW;rw[Hx];show acN (ks.map ac) (runW (λx c=>dlt (bz (λk=>(List.range 256).map (st k)) ks ks.length) x (c%256)) 0 w)=_;rw[qI];congr 2;exact Gy λc _=>(xl c).symm
theorem RA.lang(h:RA δ n x0)(acc:Nat->Bool):tq (lsAU δ acc x0)=bW δ id acc x0:=by have e:=h.ei2 acc;have a:rfP δ acc x0 (rfC δ acc x0 x0):=⟨x0,h.mem,rfl⟩;have b:=zf (st:=stM δ acc x0) e (acM δ acc x0);have g:bz (λk=>(List.range 256).map (stM δ acc x0 k)) (rfO δ acc x0) (rfO δ acc x0).length=(rfT δ acc x0).map λr=>r.map Int.ofNat:=nI _ _;rw[g]at b;have f:tq (lsAU δ acc x0)=iI (stM δ acc x0) (acM δ acc x0) (rfC δ acc x0 x0):=b;rw[f];obtain⟨d,c⟩:=fD a;rw[<-(h.cls acc _ d _ h.mem).1 c];funext w;exact h.lang2 w _ a
theorem RA.tab(h:RA δ n x0)(acc:Nat->Bool):∀ r∈rfT δ acc x0,r.length=256/\∀ x∈r,x<(rfO δ acc x0).length:=λr a=>by have f:=h.ei2 acc;unfold rfT tabK at a;obtain⟨k,e,rfl⟩:=F8.1 a;refine⟨by rw[F7];unfold rfSc scM;simp,λx c=>?_⟩;obtain⟨s,d,rfl⟩:=F8.1 c;obtain⟨i,b⟩:=List.mem_iff_getElem?.1 e;exact oh (f.cl i k (F9.1 b).1 b s d)
theorem RA.tlen(acc:Nat->Bool):(rfT δ acc x0).length=(rfO δ acc x0).length/\(rfA δ acc x0).length=(rfO δ acc x0).length:=by unfold rfT tabK rfA;rw[F7,F7];exact⟨rfl,rfl⟩
theorem RA.o0(h:RA δ n x0)(acc:Nat->Bool):0<(rfO δ acc x0).length:=HX (Gt (h.ei2 acc).hd)
end
end Go.T9
set_option maxRecDepth 1000000
namespace Go.T9
open Go Go.AM Go.MK Go.HK
noncomputable section
theorem auN_T:TOk auN:=⟨by decide,by decide,by decide,λr h=>by cases h⟩
theorem lsO_S{a:AU}(h:OkA a):(lsO (caS a) (fsS a) (accS a) (rowS a)).length=(alkD (fsS a) (accS a) (rowS a)).mem.length:=by have b:=GD.single h;have c:(reS (fsS a) a).length<=90000:=rA h _ b.ei.nd b.ei.inp;unfold accS rowS aceS rweS;generalize fsS a=F at*;generalize caS a=C at*;exact C5 b c
theorem C6{a:AU}(h:OkA a):(lsA (caS a) (fsS a) (accS a) (rowS a)).length<=300:=by obtain⟨d,b⟩:=si_ls h;have c:=lsO_S h;unfold lsA;rw[F7,c];exact b
theorem T_gen{A:Li}{R:List Lg}(f:A.length<=300)(h:R.length=A.length)(e:∀ r∈R,r.length=256/\∀ x∈r,x<A.length):TOk (0,A,R.map inF):=by refine⟨⟨Int.le_refl _,show(0:Int)<301 by decide⟩,f,by show(R.map inF).length<=300;rw[F7];omega,λr c=>?_⟩;obtain⟨q,d,rfl⟩:=F8.1 (show r∈R.map inF from c);obtain⟨i,g⟩:=e q d;refine⟨by rw[ao];omega,λx b=>?_⟩;obtain⟨y,a,rfl⟩:=F8.1 b;have:=g y a;show(0:Int)<=(y:Int)/\(y:Int)<301;omega
theorem leA_T{a:AU}(h:OkA a):TOk (leA a):=by have e:=C6 h;have b:=RA.of h;obtain⟨i,f⟩:=qQ h;obtain⟨d,g⟩:=RA.tlen (δ :=dA a) (x0:=a.1.toNat) (acN a.2.1);have c:=b.tab (acN a.2.1);rw[f]at e;rw[AI h];unfold reA reR;rw[<-g]at d c;clear i f;generalize rfA (dA a) (acN a.2.1) a.1.toNat=A at*;generalize rfT (dA a) (acN a.2.1) a.1.toNat=R at*;exact T_gen e d c
theorem gF{b:Bool}{x y:Int}(c:0<=x/\x<301)(a:0<=y/\y<301):0<=(bif b then x else y)/\(bif b then x else y)<301:=by cases b;exact a;exact c
theorem xg(a:AU):0<=chkA a/\chkA a<301:=
 gF ⟨by decide,by decide⟩ (gF ⟨by decide,by decide⟩ (gF ⟨by decide,by decide⟩ (gF ⟨by decide,by decide⟩ ⟨by decide,by decide⟩)))
theorem rdI_T{a:AU}(b:WfA a):TOk (rdI a).1/\0<=(rdI a).2/\(rdI a).2<301:=by by_cases h:chkA a=0;rw[rd0 h];exact⟨leA_T (sw b h),Int.le_refl 0,show(0:Int)<301 by decide⟩;rw[rd1 h];exact⟨auN_T,xg a⟩
end
end Go.T9
namespace Go.T9
open Go Go.AM Go.MK Go.HK Go.Proofs.Tryz
noncomputable section
def stZ:Lh->Lj
 | []=>some (.bool true)
 |_=>none
def XRl(f:AU->AU×Int)(g:AU->Int->LB):SX:=⟨env,[(5,bN caP caX),(6,bN caP caX),(8,bN caP (rdXG f)),(9,bN caP (rdXG f)),(7,bN tdP (tdXG g)),(10,bN (λ_=>none) stZ)],noEl,λ_=>.unroll 0⟩
def jRl(K:KV)(f:AU->AU×Int)(g:AU->Int->LB)(s:Int)(acc:Li)(nx:La):Prop:=bp (XRl f g) 1 f3 [.agg ⟨[.int .i64 s,dat 1 (blV acc),dat 1 (roV nx)]⟩] ⟨.leaf,0⟩ K
theorem MZ(K:KV)(f:AU->AU×Int)(g:AU->Int->LB)(s:Int)(acc:Li)(nx:La):jRl K f g s acc nx=(WfV (f_ [Vi s,JF acc,U' nx])/\Value.agg (Array.mk [Vi s,JF acc,U' nx])=Value.agg (Array.mk [Vi s,JF acc,U' nx])/\WfV (f_ [Vi s,JF acc,U' nx])/\Sp (decide (chkA (s,w_ acc,r_ nx)=chkA (s,w_ acc,r_ nx))) (WfV (f_ [Vi s,JF acc,U' nx])/\((Value.agg (Array.mk [Vi (Prod.fst (Prod.fst (f (s,w_ acc,r_ nx)))),JF (Prod.fst (Prod.snd (Prod.fst (f (s,w_ acc,r_ nx))))),U' (Prod.snd (Prod.snd (Prod.fst (f (s,w_ acc,r_ nx)))))])=Value.agg (Array.mk [Vi (Prod.fst (Prod.fst (f (s,w_ acc,r_ nx)))),JF (w_ (Prod.fst (Prod.snd (Prod.fst (f (s,w_ acc,r_ nx)))))),U' (r_ (Prod.snd (Prod.snd (Prod.fst (f (s,w_ acc,r_ nx))))))])/\TOk (auD (f_ [Vi (Prod.fst (Prod.fst (f (s,w_ acc,r_ nx)))),JF (Prod.fst (Prod.snd (Prod.fst (f (s,w_ acc,r_ nx))))),U' (Prod.snd (Prod.snd (Prod.fst (f (s,w_ acc,r_ nx)))))])))/\0<=Prod.snd (f (s,w_ acc,r_ nx))/\Prod.snd (f (s,w_ acc,r_ nx))<301)/\Value.agg (Array.mk [Vi s,JF acc,U' nx])=Value.agg (Array.mk [Vi s,JF acc,U' nx])/\Value.agg (Array.mk [Vi s,JF acc,U' nx])=Value.agg (Array.mk [Vi s,JF acc,U' nx])/\WfV (f_ [Vi s,JF acc,U' nx])/\((Value.agg (Array.mk [Vi (Prod.fst (Prod.fst (f (s,w_ acc,r_ nx)))),JF (Prod.fst (Prod.snd (Prod.fst (f (s,w_ acc,r_ nx))))),U' (Prod.snd (Prod.snd (Prod.fst (f (s,w_ acc,r_ nx)))))])=Value.agg (Array.mk [Vi (Prod.fst (Prod.fst (f (s,w_ acc,r_ nx)))),JF (w_ (Prod.fst (Prod.snd (Prod.fst (f (s,w_ acc,r_ nx)))))),U' (r_ (Prod.snd (Prod.snd (Prod.fst (f (s,w_ acc,r_ nx))))))])/\TOk (auD (f_ [Vi (Prod.fst (Prod.fst (f (s,w_ acc,r_ nx)))),JF (Prod.fst (Prod.snd (Prod.fst (f (s,w_ acc,r_ nx))))),U' (Prod.snd (Prod.snd (Prod.fst (f (s,w_ acc,r_ nx)))))])))/\0<=Prod.snd (f (s,w_ acc,r_ nx))/\Prod.snd (f (s,w_ acc,r_ nx))<301)/\Sp (eqL (Array.toList (ByteArray.data (av (g (Prod.fst (Prod.fst (f (s,w_ acc,r_ nx))),w_ (Prod.fst (Prod.snd (Prod.fst (f (s,w_ acc,r_ nx))))),r_ (Prod.snd (Prod.snd (Prod.fst (f (s,w_ acc,r_ nx)))))) (Prod.snd (f (s,w_ acc,r_ nx))))))) (Array.toList (ByteArray.data (av (g (Prod.fst (Prod.fst (f (s,w_ acc,r_ nx))),w_ (Prod.fst (Prod.snd (Prod.fst (f (s,w_ acc,r_ nx))))),r_ (Prod.snd (Prod.snd (Prod.fst (f (s,w_ acc,r_ nx)))))) (Prod.snd (f (s,w_ acc,r_ nx)))))))) (K J2 (Kn s acc nx 23)) (K KA (Kn s acc nx 23))) (K KA (Kn s acc nx 23))):=by kernel_rfl
theorem jRl_nf:type_of%(by have h:=@MZ;revert h;delta f_ m_ r_ u_ w_ U' JF J2 Kn KA;exact id):=@MZ
theorem CB(h:∀ args A p v A',bN (λ_=>none) stZ args A=some (p,v,A')->PH p->CallAt env 10 args A v A'){a:AU}(i:WfA a):Walk env f3 [auV a] (.bool true):=by
 have o:(XRl rdI tdT).Ok:=⟨ak,aF,ap,.cons sB (.cons Bg (.cons rd_tab (.cons rr_tab (.cons td_tab (.cons h .nil)))))⟩;have f:=ky i;obtain⟨r,l,k⟩:=rdI_T i;obtain⟨s,b,c⟩:=a;refine frzR o (d:=1) ((jRl_nf _ rdI tdT s b c).mpr ?_);rw[cG,cg];have j:(auV (rdI (s,b,c)).1=auV (auD (auV (rdI (s,b,c)).1)))/\TOk (auD (auV (rdI (s,b,c)).1)):=by rw[oY];exact⟨rfl,r⟩
 generalize tdT=g at*;generalize rdI (s,b,c)=R at*;obtain⟨⟨t,m,n⟩,e⟩:=R;dsimp only at*;refine⟨f,rfl,f,Sp.intro (λ_=>?_) (λq=>absurd q (by simp))⟩;refine⟨f,⟨j,l,k⟩,rfl,rfl,f,⟨j,l,k⟩,Sp.intro (λ_=>.same (HFb _)) (λq=>absurd q (by rw[(dZ _ _).2 rfl];simp))⟩
end
end Go.T9
namespace Go.T9
open Go Go.AM Go.MK Go.Proofs.Tryz
noncomputable section
theorem pn(b:∀ args A p v A',bN (λ_=>none) stZ args A=some (p,v,A')->PH p->CallAt env 10 args A v A')(a:AU)(f:WfA a)(w:World)(c:Glob env (sig0 w)){d:Value}(g:VR (sig0 w) (auV a) d):
 Calls Proofs.Tryz.prog 3 #[d] w λe w'=>e=.returned (.bool true)/\RowKit.Below w.heap.size w w':=
 tU (qj ak ap (fn:=f3) rfl (HF.cons (np _) HF.nil) (CB b f)) (lY _ _) rfl w c (.cons g .nil)
theorem vG{n:Nat}(h:n<=maxLen):n<9223372036854775808:=by unfold maxLen at h;omega
abbrev RZ:={l:Le // l.length<9223372036854775808}
theorem qX:gc Proofs.Tryz.prog 3 (λd=>∃ x:Int,d=(Value.int .i64 x).cells.toList):=by intro H e w c f a b i x g;obtain⟨d,⟨n,rfl,_⟩,h⟩:=ve Proofs.Tryz.underlying3 e w c f a b i x g;exact⟨_,⟨n,rfl⟩,h⟩
theorem yA:gc Proofs.Tryz.prog 4 (λd=>∃ x:Bool,d=(Value.bool x).cells.toList):=by intro H e w c f a b i x g;obtain⟨d,⟨n,rfl⟩,h⟩:=s8 Proofs.Tryz.underlying4 e w c f a b i x g;exact⟨_,⟨n,rfl⟩,h⟩
theorem yC:gc Proofs.Tryz.prog 22 (λa=>∃ b:Li,a=[.func (.yield 1) ⟨b.map Value.bool⟩ ⟨[]⟩]/\b.length<=maxLen):=
 fP (sz:=1) (ev:=Value.bool) Proofs.Tryz.underlying22 (by kernel_rfl) (by decide) (λ_=>rfl) yA (λ_ h=>h)
theorem yy:gc Proofs.Tryz.prog 37 (λa=>∃ b:Le,a=[.func (.yield 1) ⟨b.map (Value.int .i64)⟩ ⟨[]⟩]/\b.length<=maxLen):=
 fP (sz:=1) (ev:=Value.int .i64) Proofs.Tryz.underlying37 (by kernel_rfl) (by decide) (λ_=>rfl) qX (λ_ h=>h)
theorem yx:gc Proofs.Tryz.prog 37 (λd=>∃ x:RZ,d=(dat 1 (inV x.1)).cells.toList):=by intro H e w c f a b j x g;obtain⟨d,⟨l,rfl,i⟩,h⟩:=yy e w c f a b j x g;exact⟨_,⟨⟨l,vG i⟩,rfl⟩,h⟩
theorem yz:gc Proofs.Tryz.prog 23 (λa=>∃ b:List RZ,a=[.func (.yield 1) ⟨b.map λr=>dat 1 (inV r.1)⟩ ⟨[]⟩]/\b.length<=maxLen):=
 fP (sz:=1) (ev:=λr:RZ=>dat 1 (inV r.1)) Proofs.Tryz.underlying23 (by kernel_rfl) (by decide) (λ_=>rfl) yx (λ_ h=>h)
theorem yB:gc Proofs.Tryz.prog 25 (λf=>∃ a:AU,WfA a/\Value.agg ⟨f⟩=auV a):=by intro H g w e h b d p x i;obtain⟨f,o,j⟩:=nX Proofs.Tryz.underlying25 (by kernel_rfl) (.cons (by kernel_rfl) qX (.cons (by kernel_rfl) yC (.cons (by kernel_rfl) yz .nil))) g w e h b d p x i;obtain⟨_,_,⟨s,rfl⟩,⟨_,_,⟨c,rfl,n⟩,⟨_,_,⟨r,rfl,k⟩,rfl,rfl⟩,rfl⟩,rfl⟩:=o;refine⟨_,⟨(s,c,r.map (·.1)),⟨?_,?_,λl m=>?_⟩,?_⟩,j⟩;exact vG n;dsimp only;rw[F7];exact vG k;obtain⟨x,_,rfl⟩:=F8.1 m;exact x.2;show _=Value.agg ⟨[.int .i64 s,dat 1 (blV c),dat 1 (roV (r.map (·.1)))]⟩;unfold roV;rw[GV];rfl
theorem arg_au{H:Type}{enc:TypeId×Value->H}{w:World}{r:Reach}{i base:Nat}{sp:Nat->Bool}{held:Bool}{v:Value}{d:DataW H}{b:List MemPlace}(c:Value.okWide Proofs.Tryz.prog w r i 25 v)(g:DataW.Trod enc Proofs.Tryz.prog w base sp held 25 v d b):
 ∃a:AU,WfA a/\VR (sig0 w) (auV a) v:=by obtain⟨j,⟨a,f,e⟩,h⟩:=tY Proofs.Tryz.underlying25 yB c g;exact⟨a,f,e▸h⟩
def bruL:Le:=[0,1,56,2,57,49,28,3,61,58,42,50,38,29,17,4,62,47,59,36,45,43,51,22,53,39,33,30,24,18,12,5,63,55,48,27,60,41,37,16,46,35,44,21,52,32,23,11,54,26,40,15,34,20,31,10,25,14,19,9,13,8,7,6]
def bruD:DataW Unit:=.agg (bruL.map λx=>.lit (.int .u8 x))
def powL:Le:=[1,10,100,1000,10000,100000,1000000,10000000,100000000,1000000000,10000000000,100000000000,1000000000000,10000000000000,100000000000000,1000000000000000,10000000000000000,100000000000000000,1000000000000000000,10000000000000000000]
def powD:DataW Unit:=.agg (powL.map λx=>.lit (.int .u64 x))
def envB:Env:={env with gl:=λg=>bif Nat.beq g 0 then some oU else none}
def envP:Env:={env with gl:=λg=>bif Nat.beq g 1 then some yl else none}
theorem bru_gl(j:Nat)(cs:Lh)(h:envB.gl j=some cs):j=0/\cs=bruL.map (Value.int .u8):=by have h:(bif Nat.beq j 0 then some oU else none)=some cs:=h;cases a:Nat.beq j 0;rw[a]at h;cases h;rw[a]at h;simp only[D',osI]at h;subst h;exact⟨F6 a,rfl⟩
theorem pow_gl(j:Nat)(cs:Lh)(h:envP.gl j=some cs):j=1/\cs=powL.map (Value.int .u64):=by have h:(bif Nat.beq j 1 then some yl else none)=some cs:=h;cases a:Nat.beq j 1;rw[a]at h;cases h;rw[a]at h;simp only[D',osI]at h;subst h;exact⟨F6 a,rfl⟩
theorem xp:Proofs.Tryz.prog.globalNamed "math/bits.deBruijn64tab" =some 0:=by kernel_rfl
theorem zZ:(Proofs.Tryz.prog.globals[0]?).map (·.type)=some 158:=by kernel_rfl
theorem Fu:Proofs.Tryz.prog.underlying 158=some (.array 64 5):=Proofs.Tryz.underlying158
theorem u9:Proofs.Tryz.prog.globalNamed "internal/strconv.uint64pow10" =some 1:=by kernel_rfl
theorem yk:(Proofs.Tryz.prog.globals[1]?).map (·.type)=some 160:=by kernel_rfl
theorem CN:Proofs.Tryz.prog.underlying 160=some (.array 20 106):=Proofs.Tryz.underlying160
theorem glob_laid{laid:List (String×DataW Unit)}{w:World}(i:("math/bits.deBruijn64tab",bruD)∈laid)(d:("internal/strconv.uint64pow10",powD)∈laid)(f:(laid.all λx=>x.2.handleName?.isNone)=true)(h:laidMetH Proofs.Tryz.prog laid w):Glob env (sig0 w):=by
 rw[MakeChecks.laidMetH_plain _ _ _ f]at h;have m:Glob envB (sig0 w):=wo (E:=envB) (ls:=bruL) (k:=.u8) (len:=64) (e:=5) (t:=158) (g:=0) bru_gl i h xp zZ Fu Proofs.Tryz.underlying5 (by kernel_rfl) rfl (by decide);have l:Glob envP (sig0 w):=wo (E:=envP) (ls:=powL) (k:=.u64) (len:=20) (e:=106) (t:=160) (g:=1) pow_gl d h u9 yk CN Proofs.Tryz.underlying106 (by kernel_rfl) rfl (by decide);intro j c b;have b:(bif Nat.beq j 0 then some oU else bif Nat.beq j 1 then some yl else none)=some c:=b;cases a:Nat.beq j 0 with
 |true=>rw[a]at b;refine m j c ?_;show(bif Nat.beq j 0 then some oU else none)=some c;rw[a];exact b
 |false=>rw[a]at b;exact l j c b
end
end Go.T9
