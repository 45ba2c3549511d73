/- A part of the proof. -/
import Derived.Test.YthnclaleojkecaaGreatDoorQ1
import Derived.Test.YthnclaleojkecaaGreatDoorX2
import Derived.Test.YthnclaleojkecaaGreatDoorX4
import Derived.Test.YthnclaleojkecaaGreatDoorX1
import Derived.Test.YthnclaleojkecaaGreatDoorY2
import Derived.Test.YthnclaleojkecaaGreatDoorY1
import Derived.Test.YthnclaleojkecaaGreatDoorC
import Derived.Test.YthnclaleojkecaaGreatDoorF2
import Derived.KernelRfl
set_option linter.unusedVariables false
set_option linter.unusedSimpArgs false
set_option linter.unusedSectionVars false
set_option maxRecDepth 1000000
set_option maxHeartbeats 400000
namespace Go.T9
open Go Go.AM Go.MK Go.HK Go.Proofs.Tryz
noncomputable section
theorem NG(K:KV)(s:Int)(acc:Li)(nx:La)(e:Int):jTd K s acc nx e=(HFs [O' acc,W_ nx,Value.agg ⟨[]⟩,f_ (u8v (auT [] (s,u_ acc,p_ nx)))] (PH (Prod.fst (some ((([]:Lh)=[]/\([]:Lh)=[]/\(0:Nat)=(0:Nat))/\(Value.agg (Array.mk [Vi s,O' acc,W_ nx])=Value.agg (Array.mk [Vi s,O' (u_ acc),W_ (p_ nx)])/\TOk (s,u_ acc,p_ nx))/\(0:Nat)<=(1000:Nat)),J6,[n_ [g_ 2 0 (i_ (auT [] (s,u_ acc,p_ nx)))] 45,AObj.dead,k_ (u8v (auT [] (s,u_ acc,p_ nx))) 5])))/\HFs [f_ (u8v (auT [] (s,u_ acc,p_ nx))),f_ (u8v (JX (auT [] (s,u_ acc,p_ nx)) e))] (PH (Prod.fst (some ((([]:Lh)=[]/\u8v (auT [] (s,u_ acc,p_ nx))=u8v (G_ (auT [] (s,u_ acc,p_ nx)))/\List.length (auT [] (s,u_ acc,p_ nx))=List.length (u8v (auT [] (s,u_ acc,p_ nx))))/\(0<=e/\e<301)/\List.length (u8v (auT [] (s,u_ acc,p_ nx)))<=1000000000),J6,[n_ [g_ 2 0 (i_ (JX (auT [] (s,u_ acc,p_ nx)) e))] 45,AObj.dead,k_ (u8v (JX (auT [] (s,u_ acc,p_ nx)) e)) 5])))/\IsB (u8v (JX (auT [] (s,u_ acc,p_ nx)) e)) 0 (i_ (JX (auT [] (s,u_ acc,p_ nx)) e))/\K (Vs (aw (u8L (u8v (JX (auT [] (s,u_ acc,p_ nx)) e)) 0 (i_ (JX (auT [] (s,u_ acc,p_ nx)) e))))) (Q_ (Kd (Sg AObj.dead) (n_ [g_ 4 0 (i_ (JX (auT [] (s,u_ acc,p_ nx)) e))] 45)) (l_ s acc nx) (Ns (KG (u8v (JX (auT [] (s,u_ acc,p_ nx)) e)) 5) AObj.dead Lf) 5)):=by kernel_rfl
theorem jTd_nf:type_of%(by have h:=@NG;revert h;delta b_ f_ g_ i_ k_ l_ n_ p_ u_ z_ G_ Q_ W_ O' JX J6 Kd KG;exact id):=@NG
theorem XTd_ok:XTd.Ok:=⟨am,aE,ap,.cons at_tab (.cons rS .nil)⟩
def tdT(a:AU)(e:Int):LB:=ikT (auT [] a) e.toNat
theorem B6{a:AU}(h:TOk a){e:Int}(f:0<=e/\e<301):Walk env f7 [auV a,.int .i64 e] (.string (aw (tdT a e))):=by
 have j:(auT [] a).length<=400000:=by have q:=qa a.2.2 (ikT (bsT (ikT [] a.1.toNat) a.2.1) a.2.2.length) λr c=>(h.row r c).1;have p:=dY (bsT (ikT [] a.1.toNat) a.2.1) a.2.2.length;have o:=xy (ikT [] a.1.toNat) a.2.1;have n:=dY [] a.1.toNat;have m:([]:LB).length=0:=rfl;have l:=h.acc;have k:=h.nx;unfold auT;omega
 unfold tdT;refine frzR XTd_ok (d:=3) ((jTd_nf _ a.1 a.2.1 a.2.2 e).mpr ?_);rw[cx,bX];have g:((a.1,a.2.1,a.2.2):AU)=a:=rfl;rw[g,jo];have b:∀ T:LB,(u8v T).length=T.length:=λT=>Gu _;generalize auT [] a=t0 at*;obtain⟨i,b2⟩:=isB_u (ikT t0 e.toNat);rw[b2];have l0:=b t0;refine⟨⟨.dat (aN _),.dat (aK _),aU [],aU _,⟨⟨rfl,rfl,rfl⟩,⟨rfl,h⟩,by omega⟩⟩,⟨aU _,aU _,⟨⟨rfl,rfl,by omega⟩,f,by omega⟩⟩,i,.same (.scal rfl)⟩
def tdXG(g:AU->Int->LB):Lh->Lj
 | [v,.int .i64 e]=>(match auQ v with|some a=>some (.string (aw (g a e)))|none=>none)
 |_=>none
def tdP:Lh->Ll
 | [v,.int .i64 e]=>some ((v=auV (auD v)/\TOk (auD v))/\0<=e/\e<301)
 |_=>none
theorem td_tab:∀ args A p v A',bD tdP (tdXG tdT) args A=some (p,v,A')->PH p->CallAt env 7 args A v A':=de am ap (fn:=f7) rfl λargs v h c=>by unfold tdXG at h;split at h;rename_i u e;obtain⟨⟨b,g⟩,f⟩:(u=auV (auD u)/\TOk (auD u))/\0<=e/\e<301:=c;split at h;rename_i a d;cases h;rw[ku b d];have:=B6 g f;rw[<-b]at this;exact⟨HF.cons (by rw[b];exact nD _) (HF.cons (HFi _ _) HF.nil),this⟩;cases h;cases h
end
end Go.T9
set_option maxRecDepth 100000
namespace Go.T9
open Go.HK
section
variable {δ :Nat->Nat->Nat}{n x0:Nat}{acc:Nat->Bool}
def rfP(δ :Nat->Nat->Nat)(acc:Nat->Bool)(x0:Nat)(k:Nat):Prop:=∃ s∈rfL δ x0,rfC δ acc x0 s=k
theorem RA.num(h:RA δ n x0):(∀a b,rfP δ acc x0 a->rfP δ acc x0 b->bW δ id acc (repM (rfL δ x0) (rfC δ acc x0) a)=bW δ id acc (repM (rfL δ x0) (rfC δ acc x0) b)->a=b)/\
 (∀b,rfP δ acc x0 b->(rfSc δ acc x0 b).map (λk=>bW δ id acc (repM (rfL δ x0) (rfC δ acc x0) k))=scL 256 (bW δ id acc (repM (rfL δ x0) (rfC δ acc x0) b)))/\
 (∀b,rfP δ acc x0 b->∀ x∈rfSc δ acc x0 b,rfP δ acc x0 x):=kj h.cl (h.cls acc)
theorem RA.ei2(h:RA δ n x0)(acc:Nat->Bool):EI (rfSc δ acc x0) (rfP δ acc x0) 90001 (rfC δ acc x0 x0) (rfO δ acc x0) (rfO δ acc x0).length:=by
 have f:=h.n1;have d:=h.len;have:=EI.run (sc:=rfSc δ acc x0) (P:=rfP δ acc x0) (N:=90001) (st:=rfC δ acc x0 x0) (h.num).2.2 (λl hd b=>by
  have:=ct (l:=l) (m:=(rfL δ x0).map (rfC δ acc x0)) hd λk c=>by obtain⟨s,a,e⟩:=b k c;exact Gv.2 ⟨s,a,e⟩
  rw[Gu]at this;omega) 90001 (EI.init ⟨x0,h.mem,rfl⟩) rfl
 rw[ka]at this;exact this
def stM(δ :Nat->Nat->Nat)(acc:Nat->Bool)(x0 k c:Nat):Nat:=rfC δ acc x0 (δ (repM (rfL δ x0) (rfC δ acc x0) k) c)
def acM(δ :Nat->Nat->Nat)(acc:Nat->Bool)(x0 k:Nat):Bool:=acc (repM (rfL δ x0) (rfC δ acc x0) k)
theorem vO{S:Type}[DecidableEq S](st:S->Nat->S)(ac:S->Bool)(k:S):iR st ac k []=ac k:=rfl
theorem tF{S:Type}[DecidableEq S](st:S->Nat->S)(ac:S->Bool)(k:S)(c:Nat)(w:Lg):iR st ac k (c::w)=iR st ac (st k (c%256)) w:=rfl
theorem tG(δ :Nat->Nat->Nat)(acc:Nat->Bool)(x c:Nat)(w:Lg):bW δ id acc x (c::w)=bW δ id acc (δ x c) w:=rfl
theorem RA.lang2(h:RA δ n x0):∀ (w:Lg) (k:Nat),rfP δ acc x0 k->iR (stM δ acc x0) (acM δ acc x0) k w=bW δ id acc (repM (rfL δ x0) (rfC δ acc x0) k) w:=by
 have e:=h.cl;have d:=h.cls acc;have a:=h.per;unfold rfP stM acM;generalize rfL δ x0=l at*;generalize rfC δ acc x0=cl at*;intro w;induction w with
 |nil=>intro k _;rw[vO,jY]
 |cons c w j=>intro k m;obtain⟨f,o⟩:=fL m;have b:=e _ f (c%256);obtain⟨i,g⟩:=fL (l:=l) (cl:=cl) ⟨_,b,rfl⟩;rw[tF,tG,j _ ⟨_,b,rfl⟩,a _ c];exact congrFun ((d _ i _ b).1 g) w
def c256:Le:=(List.range 256).map Int.ofNat
theorem xv(c:Nat):clN c256 c=c%256:=by unfold clN c256;rw[GB,GQ,List.getElem?_range (Ih _ (by decide))];rfl
def lsAU(δ :Nat->Nat->Nat)(acc:Nat->Bool)(x0:Nat):AU:=(0,rfA δ acc x0,(rfT δ acc x0).map λr=>r.map Int.ofNat)
theorem qS(δ :Nat->Nat->Nat):∀ (w:Lg) (x:Nat),runW (λx c=> δ x (c%256)) x w=runW δ x (w.map λc=>c%256)
 | [],x=>rfl
 |c::w,x=>qS δ w (δ x (c%256))
theorem zq{S:Type}[DecidableEq S]{st:S->Nat->S}{P:S->Prop}{N:Nat}{a:S}{ks:List S}(h:EI (λk=>(List.range 256).map (st k)) P N a ks ks.length)(ac:S->Bool):
 tH (0,ks.map ac,bA (λk=>(List.range 256).map (st k)) ks ks.length)=iR st ac a:=by
 have b:=h.hd;have f:a∈ks:=GO b;have g:idN ks a=0:=by
  cases ks with
  |nil=>simp at b
  |cons x ks=>simp at b;subst b;simp[idN]
 funext w;have:=mz (C:=c256) h (λc d=>⟨c,by have e:=xv c;unfold clN at e;rw[Iu d]at e;rw[e,List.getElem?_range d],λ_ _=>rfl⟩) ac w f
 rw[g]at this;rw[<-this];unfold tH bW;rw[HZ];show acN (ks.map ac) (runW (λx c=>dlt (bA (λk=>(List.range 256).map (st k)) ks ks.length) x (c%256)) 0 w)=_;rw[qS];congr 2;exact GT λc _=>(xv c).symm
theorem RA.lang(h:RA δ n x0)(acc:Nat->Bool):tH (lsAU δ acc x0)=bW δ id acc x0:=by have e:=h.ei2 acc;have a:rfP δ acc x0 (rfC δ acc x0 x0):=⟨x0,h.mem,rfl⟩;have b:=zq (st:=stM δ acc x0) e (acM δ acc x0);have g:bA (λk=>(List.range 256).map (stM δ acc x0 k)) (rfO δ acc x0) (rfO δ acc x0).length=(rfT δ acc x0).map λr=>r.map Int.ofNat:=nU _ _;rw[g]at b;have f:tH (lsAU δ acc x0)=iR (stM δ acc x0) (acM δ acc x0) (rfC δ acc x0 x0):=b;rw[f];obtain⟨d,c⟩:=fL a;rw[<-(h.cls acc _ d _ h.mem).1 c];funext w;exact h.lang2 w _ a
theorem RA.tab(h:RA δ n x0)(acc:Nat->Bool):∀ r∈rfT δ acc x0,r.length=256/\∀ x∈r,x<(rfO δ acc x0).length:=λr a=>by have f:=h.ei2 acc;unfold rfT tabK at a;obtain⟨k,e,rfl⟩:=Gv.1 a;refine⟨by rw[Gu];unfold rfSc scM;simp,λx c=>?_⟩;obtain⟨s,d,rfl⟩:=Gv.1 c;obtain⟨i,b⟩:=List.mem_iff_getElem?.1 e;exact oz (f.cl i k (Gw.1 b).1 b s d)
theorem RA.tlen(acc:Nat->Bool):(rfT δ acc x0).length=(rfO δ acc x0).length/\(rfA δ acc x0).length=(rfO δ acc x0).length:=by unfold rfT tabK rfA;rw[Gu,Gu];exact⟨rfl,rfl⟩
theorem RA.o0(h:RA δ n x0)(acc:Nat->Bool):0<(rfO δ acc x0).length:=In (GO (h.ei2 acc).hd)
end
end Go.T9
set_option maxRecDepth 1000000
namespace Go.T9
open Go Go.AM Go.MK Go.HK
noncomputable section
theorem auN_T:TOk auN:=⟨by decide,by decide,by decide,λr h=>by cases h⟩
theorem lsO_S{a:AU}(h:OkA a):(lsO (caS a) (fsS a) (accS a) (rowS a)).length=(alkD (fsS a) (accS a) (rowS a)).mem.length:=by have b:=GD.single h;have c:(reS (fsS a) a).length<=90000:=rP h _ b.ei.nd b.ei.inp;unfold accS rowS aceS rweS;generalize fsS a=F at*;generalize caS a=C at*;exact Dd b c
theorem De{a:AU}(h:OkA a):(lsA (caS a) (fsS a) (accS a) (rowS a)).length<=300:=by obtain⟨d,b⟩:=si_ls h;have c:=lsO_S h;unfold lsA;rw[Gu,c];exact b
theorem T_gen{A:Li}{R:List Lg}(f:A.length<=300)(h:R.length=A.length)(e:∀ r∈R,r.length=256/\∀ x∈r,x<A.length):TOk (0,A,R.map inF):=by refine⟨⟨Int.le_refl _,show(0:Int)<301 by decide⟩,f,by show(R.map inF).length<=300;rw[Gu];omega,λr c=>?_⟩;obtain⟨q,d,rfl⟩:=Gv.1 (show r∈R.map inF from c);obtain⟨i,g⟩:=e q d;refine⟨by rw[ao];omega,λx b=>?_⟩;obtain⟨y,a,rfl⟩:=Gv.1 b;have:=g y a;show(0:Int)<=(y:Int)/\(y:Int)<301;omega
theorem leA_T{a:AU}(h:OkA a):TOk (leA a):=by have e:=De h;have b:=RA.of h;obtain⟨i,f⟩:=qY h;obtain⟨d,g⟩:=RA.tlen (δ :=dA a) (x0:=a.1.toNat) (acN a.2.1);have c:=b.tab (acN a.2.1);rw[f]at e;rw[AX h];unfold reA reR;rw[<-g]at d c;clear i f;generalize rfA (dA a) (acN a.2.1) a.1.toNat=A at*;generalize rfT (dA a) (acN a.2.1) a.1.toNat=R at*;exact T_gen e d c
theorem gO{b:Bool}{x y:Int}(c:0<=x/\x<301)(a:0<=y/\y<301):0<=(bif b then x else y)/\(bif b then x else y)<301:=by cases b;exact a;exact c
theorem xp(a:AU):0<=chkA a/\chkA a<301:=
 gO ⟨by decide,by decide⟩ (gO ⟨by decide,by decide⟩ (gO ⟨by decide,by decide⟩ (gO ⟨by decide,by decide⟩ ⟨by decide,by decide⟩)))
theorem afI_T{a:AU}(b:WfA a)(t:LB):TOk (afI a t).1/\0<=(afI a t).2/\(afI a t).2<301:=by by_cases h:chkA a=0;rw[af0 h];exact⟨leA_T (uO (lq b h) t),Int.le_refl 0,show(0:Int)<301 by decide⟩;rw[af1 h];exact⟨auN_T,xp a⟩
def stZ:Lh->Lj
 | []=>some (.bool true)
 |_=>none
end
end Go.T9
namespace Go.T9
open Go Go.AM Go.MK Go.Proofs.Tryz
noncomputable section
theorem le_max{n:Nat}(h:n<=maxLen):n<9223372036854775808:=by unfold maxLen at h;omega
abbrev RZ:={l:Le // l.length<9223372036854775808}
theorem re:gj Proofs.Tryz.prog 3 (λd=>∃ x:Int,d=(Value.int .i64 x).cells.toList):=by intro H e w c f a b i x g;obtain⟨d,⟨n,rfl,_⟩,h⟩:=vl Proofs.Tryz.underlying3 e w c f a b i x g;exact⟨_,⟨n,rfl⟩,h⟩
theorem yL:gj Proofs.Tryz.prog 4 (λd=>∃ x:Bool,d=(Value.bool x).cells.toList):=by intro H e w c f a b i x g;obtain⟨d,⟨n,rfl⟩,h⟩:=tg Proofs.Tryz.underlying4 e w c f a b i x g;exact⟨_,⟨n,rfl⟩,h⟩
theorem yN:gj Proofs.Tryz.prog 22 (λa=>∃ b:Li,a=[.func (.yield 1) ⟨b.map Value.bool⟩ ⟨[]⟩]/\b.length<=maxLen):=
 fU (sz:=1) (ev:=Value.bool) Proofs.Tryz.underlying22 (by kernel_rfl) (by decide) (λ_=>rfl) yL (λ_ h=>h)
theorem yJ:gj Proofs.Tryz.prog 37 (λa=>∃ b:Le,a=[.func (.yield 1) ⟨b.map (Value.int .i64)⟩ ⟨[]⟩]/\b.length<=maxLen):=
 fU (sz:=1) (ev:=Value.int .i64) Proofs.Tryz.underlying37 (by kernel_rfl) (by decide) (λ_=>rfl) re (λ_ h=>h)
theorem yI:gj Proofs.Tryz.prog 37 (λd=>∃ x:RZ,d=(dat 1 (inV x.1)).cells.toList):=by intro H e w c f a b j x g;obtain⟨d,⟨l,rfl,i⟩,h⟩:=yJ e w c f a b j x g;exact⟨_,⟨⟨l,le_max i⟩,rfl⟩,h⟩
theorem yK:gj Proofs.Tryz.prog 23 (λa=>∃ b:List RZ,a=[.func (.yield 1) ⟨b.map λr=>dat 1 (inV r.1)⟩ ⟨[]⟩]/\b.length<=maxLen):=
 fU (sz:=1) (ev:=λr:RZ=>dat 1 (inV r.1)) Proofs.Tryz.underlying23 (by kernel_rfl) (by decide) (λ_=>rfl) yI (λ_ h=>h)
theorem yM:gj Proofs.Tryz.prog 25 (λf=>∃ a:AU,WfA a/\Value.agg ⟨f⟩=auV a):=by intro H g w e h b d p x i;obtain⟨f,o,j⟩:=oh Proofs.Tryz.underlying25 (by kernel_rfl) (.cons (by kernel_rfl) re (.cons (by kernel_rfl) yN (.cons (by kernel_rfl) yK .nil))) g w e h b d p x i;obtain⟨_,_,⟨s,rfl⟩,⟨_,_,⟨c,rfl,n⟩,⟨_,_,⟨r,rfl,k⟩,rfl,rfl⟩,rfl⟩,rfl⟩:=o;refine⟨_,⟨(s,c,r.map (·.1)),⟨?_,?_,λl m=>?_⟩,?_⟩,j⟩;exact le_max n;dsimp only;rw[Gu];exact le_max k;obtain⟨x,_,rfl⟩:=Gv.1 m;exact x.2;show _=Value.agg ⟨[.int .i64 s,dat 1 (blV c),dat 1 (roV (r.map (·.1)))]⟩;unfold roV;rw[Hp];rfl
theorem arg_au{H:Type}{enc:TypeId×Value->H}{w:World}{r:Reach}{i base:Nat}{sp:Nat->Bool}{held:Bool}{v:Value}{d:DataW H}{b:List MemPlace}(c:Value.okWide Proofs.Tryz.prog w r i 25 v)(g:DataW.Trod enc Proofs.Tryz.prog w base sp held 25 v d b):
 ∃a:AU,WfA a/\VR (sig0 w) (auV a) v:=by obtain⟨j,⟨a,f,e⟩,h⟩:=ug Proofs.Tryz.underlying25 yM c g;exact⟨a,f,e▸h⟩
def bruL:Le:=[0,1,56,2,57,49,28,3,61,58,42,50,38,29,17,4,62,47,59,36,45,43,51,22,53,39,33,30,24,18,12,5,63,55,48,27,60,41,37,16,46,35,44,21,52,32,23,11,54,26,40,15,34,20,31,10,25,14,19,9,13,8,7,6]
def bruD:DataW Unit:=.agg (bruL.map λx=>.lit (.int .u8 x))
def powL:Le:=[1,10,100,1000,10000,100000,1000000,10000000,100000000,1000000000,10000000000,100000000000,1000000000000,10000000000000,100000000000000,1000000000000000,10000000000000000,100000000000000000,1000000000000000000,10000000000000000000]
def powD:DataW Unit:=.agg (powL.map λx=>.lit (.int .u64 x))
def envB:Env:={env with gl:=λg=>bif Nat.beq g 0 then some o7 else none}
def envP:Env:={env with gl:=λg=>bif Nat.beq g 1 then some yx else none}
theorem bru_gl(j:Nat)(cs:Lh)(h:envB.gl j=some cs):j=0/\cs=bruL.map (Value.int .u8):=by have h:(bif Nat.beq j 0 then some o7 else none)=some cs:=h;cases a:Nat.beq j 0;rw[a]at h;cases h;rw[a]at h;simp only[D',osI]at h;subst h;exact⟨Gt a,rfl⟩
theorem pow_gl(j:Nat)(cs:Lh)(h:envP.gl j=some cs):j=1/\cs=powL.map (Value.int .u64):=by have h:(bif Nat.beq j 1 then some yx else none)=some cs:=h;cases a:Nat.beq j 1;rw[a]at h;cases h;rw[a]at h;simp only[D',osI]at h;subst h;exact⟨Gt a,rfl⟩
theorem xz:Proofs.Tryz.prog.globalNamed "math/bits.deBruijn64tab" =some 0:=by kernel_rfl
theorem Ab:(Proofs.Tryz.prog.globals[0]?).map (·.type)=some 158:=by kernel_rfl
theorem FW:Proofs.Tryz.prog.underlying 158=some (.array 64 5):=Proofs.Tryz.underlying158
theorem vi:Proofs.Tryz.prog.globalNamed "internal/strconv.uint64pow10" =some 1:=by kernel_rfl
theorem yw:(Proofs.Tryz.prog.globals[1]?).map (·.type)=some 160:=by kernel_rfl
theorem CW:Proofs.Tryz.prog.underlying 160=some (.array 20 106):=Proofs.Tryz.underlying160
theorem glob_laid{laid:List (String×DataW Unit)}{w:World}(i:("math/bits.deBruijn64tab",bruD)∈laid)(d:("internal/strconv.uint64pow10",powD)∈laid)(f:(laid.all λx=>x.2.handleName?.isNone)=true)(h:laidMetH Proofs.Tryz.prog laid w):Glob env (sig0 w):=by
 rw[MakeChecks.laidMetH_plain _ _ _ f]at h;have m:Glob envB (sig0 w):=wB (E:=envB) (ls:=bruL) (k:=.u8) (len:=64) (e:=5) (t:=158) (g:=0) bru_gl i h xz Ab FW Proofs.Tryz.underlying5 (by kernel_rfl) rfl (by decide);have l:Glob envP (sig0 w):=wB (E:=envP) (ls:=powL) (k:=.u64) (len:=20) (e:=106) (t:=160) (g:=1) pow_gl d h vi yw CW Proofs.Tryz.underlying106 (by kernel_rfl) rfl (by decide);intro j c b;have b:(bif Nat.beq j 0 then some o7 else bif Nat.beq j 1 then some yx else none)=some c:=b;cases a:Nat.beq j 0 with
 |true=>rw[a]at b;refine m j c ?_;show(bif Nat.beq j 0 then some o7 else none)=some c;rw[a];exact b
 |false=>rw[a]at b;exact l j c b
end
end Go.T9
namespace Go.T9
open Go Go.AM Go.MK Go.HK Go.Proofs.Tryz
noncomputable section
def aeX(f:AU->ByteArray->AU×Int)(a:AU)(t:ByteArray):Value:=auE (f a t).1 (f a t).2
def XAl(f:AU->ByteArray->AU×Int)(g:AU->Int->LB)(h:AU->ByteArray->FI):SX:=⟨env,[(11,bD acP (wtX (aeX f))),(12,bD acP (wtX (aeX f))),(7,bD tdP (tdXG g)),(13,bD acP (wtX λa t=>fiV (h a t))),(14,bD acP (wtX λa t=>fiV (h a t))),(10,bD (λ_=>none) stZ)],noEl,λ_=>.unroll 0⟩
def jAl(K:KV)(f:AU->ByteArray->AU×Int)(g:AU->Int->LB)(h:AU->ByteArray->FI)(s:Int)(acc:Li)(nx:La)(t:ByteArray):Prop:=bh (XAl f g h) 1 f4 [.agg ⟨[.int .i64 s,dat 1 (blV acc),dat 1 (roV nx)]⟩,.string t] ⟨.leaf,0⟩ K
theorem NH(K:KV)(f:AU->ByteArray->AU×Int)(g:AU->Int->LB)(h:AU->ByteArray->FI)(s:Int)(acc:Li)(nx:La)(t:ByteArray):jAl K f g h s acc nx t=((WfV (f_ [Vi s,O' acc,W_ nx])/\ByteArray.size t<9223372036854775808)/\((Value.agg (Array.mk [Vi (Prod.fst (Prod.fst (f (s,u_ acc,p_ nx) t))),O' (Prod.fst (Prod.snd (Prod.fst (f (s,u_ acc,p_ nx) t)))),W_ (Prod.snd (Prod.snd (Prod.fst (f (s,u_ acc,p_ nx) t))))])=Value.agg (Array.mk [Vi (Prod.fst (Prod.fst (f (s,u_ acc,p_ nx) t))),O' (u_ (Prod.fst (Prod.snd (Prod.fst (f (s,u_ acc,p_ nx) t))))),W_ (p_ (Prod.snd (Prod.snd (Prod.fst (f (s,u_ acc,p_ nx) t)))))])/\TOk (auD (f_ [Vi (Prod.fst (Prod.fst (f (s,u_ acc,p_ nx) t))),O' (Prod.fst (Prod.snd (Prod.fst (f (s,u_ acc,p_ nx) t)))),W_ (Prod.snd (Prod.snd (Prod.fst (f (s,u_ acc,p_ nx) t))))])))/\0<=Prod.snd (f (s,u_ acc,p_ nx) t)/\Prod.snd (f (s,u_ acc,p_ nx) t)<301)/\Value.agg (Array.mk [Vi s,O' acc,W_ nx])=Value.agg (Array.mk [Vi s,O' acc,W_ nx])/\Value.agg (Array.mk [Vi s,O' acc,W_ nx])=Value.agg (Array.mk [Vi s,O' acc,W_ nx])/\(WfV (f_ [Vi s,O' acc,W_ nx])/\ByteArray.size t<9223372036854775808)/\((Value.agg (Array.mk [Vi (Prod.fst (Prod.fst (f (s,u_ acc,p_ nx) t))),O' (Prod.fst (Prod.snd (Prod.fst (f (s,u_ acc,p_ nx) t)))),W_ (Prod.snd (Prod.snd (Prod.fst (f (s,u_ acc,p_ nx) t))))])=Value.agg (Array.mk [Vi (Prod.fst (Prod.fst (f (s,u_ acc,p_ nx) t))),O' (u_ (Prod.fst (Prod.snd (Prod.fst (f (s,u_ acc,p_ nx) t))))),W_ (p_ (Prod.snd (Prod.snd (Prod.fst (f (s,u_ acc,p_ nx) t)))))])/\TOk (auD (f_ [Vi (Prod.fst (Prod.fst (f (s,u_ acc,p_ nx) t))),O' (Prod.fst (Prod.snd (Prod.fst (f (s,u_ acc,p_ nx) t)))),W_ (Prod.snd (Prod.snd (Prod.fst (f (s,u_ acc,p_ nx) t))))])))/\0<=Prod.snd (f (s,u_ acc,p_ nx) t)/\Prod.snd (f (s,u_ acc,p_ nx) t)<301)/\Sp (! eqL (Array.toList (ByteArray.data (aw (g (Prod.fst (Prod.fst (f (s,u_ acc,p_ nx) t)),u_ (Prod.fst (Prod.snd (Prod.fst (f (s,u_ acc,p_ nx) t)))),p_ (Prod.snd (Prod.snd (Prod.fst (f (s,u_ acc,p_ nx) t))))) (Prod.snd (f (s,u_ acc,p_ nx) t)))))) (Array.toList (ByteArray.data (aw (g (Prod.fst (Prod.fst (f (s,u_ acc,p_ nx) t)),u_ (Prod.fst (Prod.snd (Prod.fst (f (s,u_ acc,p_ nx) t)))),p_ (Prod.snd (Prod.snd (Prod.fst (f (s,u_ acc,p_ nx) t))))) (Prod.snd (f (s,u_ acc,p_ nx) t))))))) (K Kw (Ke s acc nx 14)) ((WfV (f_ [Vi s,O' acc,W_ nx])/\ByteArray.size t<9223372036854775808)/\(WfV (f_ [Vi s,O' acc,W_ nx])/\ByteArray.size t<9223372036854775808)/\Sp (decide (Prod.fst (Prod.fst (h (s,u_ acc,p_ nx) t))=Prod.fst (Prod.fst (h (s,u_ acc,p_ nx) t)))) (Sp (decide (Prod.fst (Prod.snd (Prod.fst (h (s,u_ acc,p_ nx) t)))=Prod.fst (Prod.snd (Prod.fst (h (s,u_ acc,p_ nx) t))))) (Sp (Prod.snd (Prod.snd (Prod.fst (h (s,u_ acc,p_ nx) t)))==Prod.snd (Prod.snd (Prod.fst (h (s,u_ acc,p_ nx) t)))) (Sp (decide (Prod.snd (h (s,u_ acc,p_ nx) t)=Prod.snd (h (s,u_ acc,p_ nx) t))) (K Km (Ke s acc nx 14)) (K Kw (Ke s acc nx 14))) (K Kw (Ke s acc nx 14))) (K Kw (Ke s acc nx 14))) (K Kw (Ke s acc nx 14)))):=by kernel_rfl
theorem jAl_nf:type_of%(by have h:=@NH;revert h;delta f_ l_ p_ u_ W_ O' Ke Km Kw;exact id):=@NH
def afJ(a:AU)(t:ByteArray):AU×Int:=afI a t.data.toList
theorem fa_tab:∀ args A p v A',bD acP (wtX (aeX afJ)) args A=some (p,v,A')->PH p->CallAt env 11 args A v A':=qC (fn:=f11) rfl λa t h b=>yA h b
theorem fe_tab:∀ args A p v A',bD acP (wtX (aeX afJ)) args A=some (p,v,A')->PH p->CallAt env 12 args A v A':=qC (fn:=f12) rfl λa t h b=>EV h b
theorem XAl_ok(a:∀ args A p v A',bD (λ_=>none) stZ args A=some (p,v,A')->PH p->CallAt env 10 args A v A'):(XAl afJ tdT fiI).Ok:=⟨am,aE,ap,.cons fa_tab (.cons fe_tab (.cons td_tab (.cons fi_tab (.cons fd_tab (.cons a .nil)))))⟩
theorem Ah(i:∀ args A p v A',bD (λ_=>none) stZ args A=some (p,v,A')->PH p->CallAt env 10 args A v A'){a:AU}(j:WfA a)(t:ByteArray)(f:t.size<9223372036854775808):Walk env f4 [auV a,.string t] (.bool true):=by
 have r:=XAl_ok i;have h:=iy j;obtain⟨u,m,l⟩:TOk (afJ a t).1/\0<=(afJ a t).2/\(afJ a t).2<301:=afI_T j t.data.toList;obtain⟨s,b,c⟩:=a;refine frzR r (d:=1) ((jAl_nf _ afJ tdT fiI s b c t).mpr ?_);rw[cx,bX];have k:(auV (afJ (s,b,c) t).1=auV (auD (auV (afJ (s,b,c) t).1)))/\TOk (auD (auV (afJ (s,b,c) t).1)):=by rw[pa];exact⟨rfl,u⟩
 generalize tdT=g at*;generalize afJ (s,b,c) t=R at*;generalize fiI (s,b,c) t=S at*;obtain⟨⟨w,n,o⟩,e⟩:=R;obtain⟨⟨x,y,z⟩,q⟩:=S;dsimp only at*;refine⟨⟨h,f⟩,⟨k,m,l⟩,rfl,rfl,⟨h,f⟩,⟨k,m,l⟩,Sp.intro (λq=>absurd q (by rw[(ez _ _).2 rfl];simp)) (λ_=>⟨⟨h,f⟩,⟨h,f⟩,?_⟩)⟩;exact Sp.intro (λ_=>Sp.intro (λ_=>Sp.intro (λ_=>Sp.intro (λ_=>.same (HFb _)) (λq=>absurd q (by simp))) (λq=>absurd q (by simp))) (λq=>absurd q (by simp))) (λq=>absurd q (by simp))
end
end Go.T9
