/- A part of the proof. -/
import Derived.Test.YtegefclhhjbfhaaGreatDoorQ1
set_option linter.unusedVariables false
set_option linter.unusedSimpArgs false
set_option linter.unusedSectionVars false
set_option maxRecDepth 1000000
set_option maxHeartbeats 400000
namespace Go.T9
open Go Go.AM Go.MK Go.HK Go.Proofs.Tryz
noncomputable section
theorem NS(K:KV)(s:Int)(b:Li)(a:La)(e:Int):jTd K s b a e=(HFs [P' b,S_ a,Value.agg ⟨[]⟩,d_ (u8v (auT [] (s,v_ b,n_ a)))] ((([]:Lh)=[]/\([]:Lh)=[]/\(0:Nat)=(0:Nat))/\(Value.agg (Array.mk [Vi s,P' b,S_ a])=Value.agg (Array.mk [Vi s,P' (v_ b),S_ (n_ a)])/\TOk (s,v_ b,n_ a))/\(0:Nat)<=(1000:Nat))/\HFs [d_ (u8v (auT [] (s,v_ b,n_ a))),d_ (u8v (Lx (auT [] (s,v_ b,n_ a)) e))] ((([]:Lh)=[]/\u8v (auT [] (s,v_ b,n_ a))=u8v (U_ (auT [] (s,v_ b,n_ a)))/\List.length (auT [] (s,v_ b,n_ a))=List.length (u8v (auT [] (s,v_ b,n_ a))))/\(0<=e/\e<301)/\List.length (u8v (auT [] (s,v_ b,n_ a)))<=1000000000)/\IsB (u8v (Lx (auT [] (s,v_ b,n_ a)) e)) 0 (k_ (Lx (auT [] (s,v_ b,n_ a)) e))/\K (Vs (av (u8L (u8v (Lx (auT [] (s,v_ b,n_ a)) e)) 0 (k_ (Lx (auT [] (s,v_ b,n_ a)) e))))) (K_ (Kw (Sg AObj.dead) (m_ [g_ 4 0 (k_ (Lx (auT [] (s,v_ b,n_ a)) e))] 38)) (h_ s b a) (Ns (Lu (u8v (Lx (auT [] (s,v_ b,n_ a)) e)) 5) AObj.dead Lf) 5)):=by kernel_rfl
theorem jTd_nf:type_of%(by have h:=@NS;revert h;delta b_ d_ g_ h_ k_ l_ m_ n_ v_ G_ K_ S_ U_ P' Kw Lu Lx;exact id):=@NS
theorem XTd_ok:XTd.Ok:=⟨ai,aD,am,.cons at_tab (.cons rP .nil)⟩
def tdT(a:AU)(e:Int):LB:=ikT (auT [] a) e.toNat
theorem Cp{a:AU}(h:TOk a){e:Int}(f:0<=e/\e<301):Walk env f5 [auV a,.int .i64 e] (.string (av (tdT a e))):=by
 have k:(auT [] a).length<=400000:=by have s:=p7 a.2.2 (ikT (bsT (ikT [] a.1.toNat) a.2.1) a.2.2.length) λr c=>(h.row r c).1;have q:=eD (bsT (ikT [] a.1.toNat) a.2.1) a.2.2.length;have p:=xS (ikT [] a.1.toNat) a.2.1;have o:=eD [] a.1.toNat;have n:([]:LB).length=0:=rfl;have m:=h.acc;have l:=h.nx;unfold auT;omega
 unfold tdT;refine frzR XTd_ok (d:=3) ((jTd_nf _ a.1 a.2.1 a.2.2 e).mpr ?_);rw[bf,bd];have g:((a.1,a.2.1,a.2.2):AU)=a:=rfl;rw[g,jB];have b:∀ T:LB,(u8v T).length=T.length:=λT=>Hp _;generalize auT [] a=t0 at*;obtain⟨i,b2⟩:=isB_u (ikT t0 e.toNat);rw[b2];have j:=b t0;refine⟨⟨.dat (ax _),.dat (aq _),aX [],aX _,⟨⟨rfl,rfl,rfl⟩,⟨rfl,h⟩,by omega⟩⟩,⟨aX _,aX _,⟨⟨rfl,rfl,by omega⟩,f,by omega⟩⟩,i,.same (.scal rfl)⟩
theorem i5(a:AU)(e:Int):HF (auE a e):=.tuple (HF.cons (fH a) (HF.cons (HFi _ _) HF.nil))
end
end Go.T9
set_option maxRecDepth 100000
namespace Go.T9
open Go.HK
section
variable {δ :Nat->Nat->Nat}{n x0:Nat}{acc:Nat->Bool}
def rfP(δ :Nat->Nat->Nat)(a:Nat->Bool)(x0:Nat)(k:Nat):Prop:=∃ s∈rfL δ x0,rfC δ a x0 s=k
theorem RA.num(h:RA δ n x0):(∀a b,rfP δ acc x0 a->rfP δ acc x0 b->bF δ id acc (repM (rfL δ x0) (rfC δ acc x0) a)=bF δ id acc (repM (rfL δ x0) (rfC δ acc x0) b)->a=b)/\
 (∀b,rfP δ acc x0 b->(rfSc δ acc x0 b).map (λk=>bF δ id acc (repM (rfL δ x0) (rfC δ acc x0) k))=scL 256 (bF δ id acc (repM (rfL δ x0) (rfC δ acc x0) b)))/\
 (∀b,rfP δ acc x0 b->∀ x∈rfSc δ acc x0 b,rfP δ acc x0 x):=kB h.cl (h.cls acc)
theorem RA.ei2(h:RA δ n x0)(acc:Nat->Bool):EI (rfSc δ acc x0) (rfP δ acc x0) 90001 (rfC δ acc x0 x0) (rfO δ acc x0) (rfO δ acc x0).length:=by
 have f:=h.n1;have d:=h.len;have:=EI.run (sc:=rfSc δ acc x0) (P:=rfP δ acc x0) (N:=90001) (st:=rfC δ acc x0 x0) (h.num).2.2 (λl hd a=>by
  have:=cf (l:=l) (m:=(rfL δ x0).map (rfC δ acc x0)) hd λk b=>by obtain⟨s,c,e⟩:=a k b;grind
  grind) 90001 (EI.init ⟨x0,h.mem,rfl⟩) rfl
 rw[ku]at this;exact this
theorem RA.olen(h:RA δ n x0)(acc:Nat->Bool):(rfO δ acc x0).length<=n:=by
 have c:=h.len;have:=cf (l:=rfO δ acc x0) (m:=(rfL δ x0).map (rfC δ acc x0)) (h.ei2 acc).nd λk a=>by obtain⟨s,b,e⟩:=(h.ei2 acc).inp k a;grind
 grind
def stM(δ :Nat->Nat->Nat)(b:Nat->Bool)(a k c:Nat):Nat:=rfC δ b a (δ (repM (rfL δ a) (rfC δ b a) k) c)
def acM(δ :Nat->Nat->Nat)(b:Nat->Bool)(a k:Nat):Bool:=b (repM (rfL δ a) (rfC δ b a) k)
theorem v4{S:Type}[DecidableEq S](st:S->Nat->S)(ac:S->Bool)(k:S):dR st ac k []=ac k:=rfl
theorem tM{S:Type}[DecidableEq S](st:S->Nat->S)(ac:S->Bool)(k:S)(c:Nat)(w:Lg):dR st ac k (c::w)=dR st ac (st k (c%256)) w:=rfl
theorem tN(δ :Nat->Nat->Nat)(acc:Nat->Bool)(x c:Nat)(w:Lg):bF δ id acc x (c::w)=bF δ id acc (δ x c) w:=rfl
theorem RA.lang2(h:RA δ n x0):∀ (w:Lg) (k:Nat),rfP δ acc x0 k->dR (stM δ acc x0) (acM δ acc x0) k w=bF δ id acc (repM (rfL δ x0) (rfC δ acc x0) k) w:=by
 have e:=h.cl;have d:=h.cls acc;have a:=h.per;unfold rfP stM acM;generalize rfL δ x0=l at*;generalize rfC δ acc x0=cl at*;intro w;induction w with
 |nil=>intro k _;rw[v4,kf]
 |cons c w j=>intro k m;obtain⟨f,o⟩:=gF m;have b:=e _ f (c%256);obtain⟨i,g⟩:=gF (l:=l) (cl:=cl) ⟨_,b,rfl⟩;rw[tM,tN,j _ ⟨_,b,rfl⟩,a _ c];exact congrFun ((d _ i _ b).1 g) w
def c256:Le:=(List.range 256).map Int.ofNat
theorem xO(c:Nat):clN c256 c=c%256:=by grind [clN,c256,HY,List.getElem?_range,Iy]
def lsAU(δ :Nat->Nat->Nat)(b:Nat->Bool)(a:Nat):AU:=(0,rfA δ b a,(rfT δ b a).map λr=>r.map Int.ofNat)
theorem qN(δ :Nat->Nat->Nat):∀ (w:Lg) (x:Nat),runW (λx c=> δ x (c%256)) x w=runW δ x (w.map λc=>c%256)
 | [],x=>rfl
 |c::w,x=>qN δ w (δ x (c%256))
theorem my{S:Type}[DecidableEq S]{st:S->Nat->S}{P:S->Prop}{N:Nat}{a:S}{ks:List S}(h:EI (λk=>(List.range 256).map (st k)) P N a ks ks.length)(ac:S->Bool):
 cw (0,ks.map ac,bc (λk=>(List.range 256).map (st k)) ks ks.length)=dR st ac a:=by
 have b:=h.hd;have d:a∈ks:=HR b;have f:idN ks a=0:=by
  cases ks with
  |nil=>simp at b
  |cons x ks=>grind [idN]
 funext w;have:=mz (C:=c256) h (λc g=>⟨c,by have e:=xO c;grind [clN,Jk,List.getElem?_range],λ_ _=>rfl⟩) ac w d
 rw[f]at this;rw[<-this];unfold cw bF;rw[IC];show acN (ks.map ac) (runW (λx c=>dlt (bc (λk=>(List.range 256).map (st k)) ks ks.length) x (c%256)) 0 w)=_;rw[qN];grind [HQ,xO]
theorem RA.lang(h:RA δ n x0)(acc:Nat->Bool):cw (lsAU δ acc x0)=bF δ id acc x0:=by have e:=h.ei2 acc;have a:rfP δ acc x0 (rfC δ acc x0 x0):=⟨x0,h.mem,rfl⟩;have b:=my (st:=stM δ acc x0) e (acM δ acc x0);have g:bc (λk=>(List.range 256).map (stM δ acc x0 k)) (rfO δ acc x0) (rfO δ acc x0).length=(rfT δ acc x0).map λr=>r.map Int.ofNat:=nO _ _;rw[g]at b;have f:cw (lsAU δ acc x0)=dR (stM δ acc x0) (acM δ acc x0) (rfC δ acc x0 x0):=b;rw[f];obtain⟨d,c⟩:=gF a;rw[<-(h.cls acc _ d _ h.mem).1 c];funext w;exact h.lang2 w _ a
theorem RA.tab(h:RA δ n x0)(acc:Nat->Bool):∀ r∈rfT δ acc x0,r.length=256/\∀ x∈r,x<(rfO δ acc x0).length:=λr a=>by have f:=h.ei2 acc;unfold rfT tabK at a;obtain⟨k,e,rfl⟩:=Hn.1 a;refine⟨by rw[Hp];unfold rfSc scM;simp,λx c=>?_⟩;obtain⟨s,d,rfl⟩:=Hn.1 c;obtain⟨i,b⟩:=List.mem_iff_getElem?.1 e;exact oq (f.cl i k (Hx.1 b).1 b s d)
theorem RA.tlen(acc:Nat->Bool):(rfT δ acc x0).length=(rfO δ acc x0).length/\(rfA δ acc x0).length=(rfO δ acc x0).length:=by unfold rfT tabK rfA;grind
theorem RA.o0(h:RA δ n x0)(acc:Nat->Bool):0<(rfO δ acc x0).length:=I7 (HR (h.ei2 acc).hd)
end
end Go.T9
set_option maxRecDepth 1000000
namespace Go.T9
open Go Go.AM Go.MK Go.HK
noncomputable section
theorem auN_T:TOk auN:=⟨by decide,by decide,by decide,λr h=>by cases h⟩
theorem ib{b:Bool}{x y:Int}(c:0<=x/\x<301)(a:0<=y/\y<301):0<=(bif b then x else y)/\(bif b then x else y)<301:=by grind
theorem kD(a:AU):0<=chkA a/\chkA a<301:=
 ib ⟨by decide,by decide⟩ (ib ⟨by decide,by decide⟩ (ib ⟨by decide,by decide⟩ (ib ⟨by decide,by decide⟩ ⟨by decide,by decide⟩)))
def stZ:Lh->Lj
 | []=>some (.bool true)
 |_=>none
end
end Go.T9
namespace Go.T9
open Go Go.AM Go.MK Go.Proofs.Tryz
noncomputable section
theorem vX{n:Nat}(h:n<=maxLen):n<9223372036854775808:=by unfold maxLen at h;omega
abbrev RZ:={l:Le // l.length<9223372036854775808}
theorem rc:gA Proofs.Tryz.prog 3 (λd=>∃ x:Int,d=(Value.int .i64 x).cells.toList):=by intro H e w c f a b i x g;obtain⟨d,⟨n,rfl,_⟩,h⟩:=vz Proofs.Tryz.underlying3 e w c f a b i x g;exact⟨_,⟨n,rfl⟩,h⟩
theorem y4:gA Proofs.Tryz.prog 4 (λd=>∃ x:Bool,d=(Value.bool x).cells.toList):=by intro H e w c f a b i x g;obtain⟨d,⟨n,rfl⟩,h⟩:=tv Proofs.Tryz.underlying4 e w c f a b i x g;exact⟨_,⟨n,rfl⟩,h⟩
theorem y6:gA Proofs.Tryz.prog 22 (λa=>∃ b:Li,a=[.func (.yield 1) ⟨b.map Value.bool⟩ ⟨[]⟩]/\b.length<=maxLen):=
 gi (sz:=1) (ev:=Value.bool) Proofs.Tryz.underlying22 (by kernel_rfl) (by decide) (λ_=>rfl) y4 (λ_ h=>h)
theorem y0:gA Proofs.Tryz.prog 49 (λa=>∃ b:Le,a=[.func (.yield 1) ⟨b.map (Value.int .i64)⟩ ⟨[]⟩]/\b.length<=maxLen):=
 gi (sz:=1) (ev:=Value.int .i64) Proofs.Tryz.underlying49 (by kernel_rfl) (by decide) (λ_=>rfl) rc (λ_ h=>h)
theorem yZ:gA Proofs.Tryz.prog 49 (λd=>∃ x:RZ,d=(dat 1 (inV x.1)).cells.toList):=by intro H e w c f a b j x g;obtain⟨d,⟨l,rfl,i⟩,h⟩:=y0 e w c f a b j x g;exact⟨_,⟨⟨l,vX i⟩,rfl⟩,h⟩
theorem y3:gA Proofs.Tryz.prog 23 (λa=>∃ b:List RZ,a=[.func (.yield 1) ⟨b.map λr=>dat 1 (inV r.1)⟩ ⟨[]⟩]/\b.length<=maxLen):=
 gi (sz:=1) (ev:=λr:RZ=>dat 1 (inV r.1)) Proofs.Tryz.underlying23 (by kernel_rfl) (by decide) (λ_=>rfl) yZ (λ_ h=>h)
theorem y5:gA Proofs.Tryz.prog 25 (λf=>∃ a:AU,WfA a/\Value.agg ⟨f⟩=auV a):=by intro H g w e h b d o x i;obtain⟨f,n,j⟩:=n9 Proofs.Tryz.underlying25 (by kernel_rfl) (.cons (by kernel_rfl) rc (.cons (by kernel_rfl) y6 (.cons (by kernel_rfl) y3 .nil))) g w e h b d o x i;obtain⟨_,_,⟨s,rfl⟩,⟨_,_,⟨c,rfl,m⟩,⟨_,_,⟨r,rfl,k⟩,rfl,rfl⟩,rfl⟩,rfl⟩:=n;refine⟨_,⟨(s,c,r.map (·.1)),⟨?_,?_,λl p=>?_⟩,?_⟩,j⟩;exact vX m;dsimp only;rw[Hp];exact vX k;grind;show _=Value.agg ⟨[.int .i64 s,dat 1 (blV c),dat 1 (roV (r.map (·.1)))]⟩;unfold roV;rw[H4];rfl
theorem arg_au{H:Type}{enc:TypeId×Value->H}{w:World}{r:Reach}{i base:Nat}{sp:Nat->Bool}{held:Bool}{v:Value}{d:DataW H}{b:List MemPlace}(c:Value.okWide Proofs.Tryz.prog w r i 25 v)(g:DataW.Trod enc Proofs.Tryz.prog w base sp held 25 v d b):
 ∃a:AU,WfA a/\VR (sig0 w) (auV a) v:=by obtain⟨j,⟨a,f,e⟩,h⟩:=uo Proofs.Tryz.underlying25 y5 c g;exact⟨a,f,e▸h⟩
def bruL:Le:=[0,1,56,2,57,49,28,3,61,58,42,50,38,29,17,4,62,47,59,36,45,43,51,22,53,39,33,30,24,18,12,5,63,55,48,27,60,41,37,16,46,35,44,21,52,32,23,11,54,26,40,15,34,20,31,10,25,14,19,9,13,8,7,6]
def bruD:DataW Unit:=.agg (bruL.map λx=>.lit (.int .u8 x))
def powL:Le:=[1,10,100,1000,10000,100000,1000000,10000000,100000000,1000000000,10000000000,100000000000,1000000000000,10000000000000,100000000000000,1000000000000000,10000000000000000,100000000000000000,1000000000000000000,10000000000000000000]
def powD:DataW Unit:=.agg (powL.map λx=>.lit (.int .u64 x))
def envB:Env:={env with gl:=λg=>bif Nat.beq g 0 then some oQ else none}
def envP:Env:={env with gl:=λg=>bif Nat.beq g 1 then some yP else none}
theorem bru_gl(j:Nat)(cs:Lh)(h:envB.gl j=some cs):j=0/\cs=bruL.map (Value.int .u8):=by have h:(bif Nat.beq j 0 then some oQ else none)=some cs:=h;cases a:Nat.beq j 0;rw[a]at h;cases h;rw[a]at h;simp only[C',osI]at h;subst h;exact⟨Ho a,rfl⟩
theorem pow_gl(j:Nat)(cs:Lh)(h:envP.gl j=some cs):j=1/\cs=powL.map (Value.int .u64):=by have h:(bif Nat.beq j 1 then some yP else none)=some cs:=h;cases a:Nat.beq j 1;rw[a]at h;cases h;rw[a]at h;simp only[C',osI]at h;subst h;exact⟨Ho a,rfl⟩
theorem xT:Proofs.Tryz.prog.globalNamed "math/bits.deBruijn64tab" =some 0:=by kernel_rfl
theorem An:(Proofs.Tryz.prog.globals[0]?).map (·.type)=some 166:=by kernel_rfl
theorem GN:Proofs.Tryz.prog.underlying 166=some (.array 64 5):=Proofs.Tryz.underlying166
theorem vu:Proofs.Tryz.prog.globalNamed "internal/strconv.uint64pow10" =some 1:=by kernel_rfl
theorem yO:(Proofs.Tryz.prog.globals[1]?).map (·.type)=some 168:=by kernel_rfl
theorem Dl:Proofs.Tryz.prog.underlying 168=some (.array 20 109):=Proofs.Tryz.underlying168
theorem glob_laid{laid:List (String×DataW Unit)}{w:World}(i:("math/bits.deBruijn64tab",bruD)∈laid)(d:("internal/strconv.uint64pow10",powD)∈laid)(f:(laid.all λx=>x.2.handleName?.isNone)=true)(h:laidMetH Proofs.Tryz.prog laid w):Glob env (sig0 w):=by
 rw[MakeChecks.laidMetH_plain _ _ _ f]at h;have m:Glob envB (sig0 w):=wR (E:=envB) (ls:=bruL) (k:=.u8) (len:=64) (e:=5) (t:=166) (g:=0) bru_gl i h xT An GN Proofs.Tryz.underlying5 (by kernel_rfl) rfl (by decide);have l:Glob envP (sig0 w):=wR (E:=envP) (ls:=powL) (k:=.u64) (len:=20) (e:=109) (t:=168) (g:=1) pow_gl d h vu yO Dl Proofs.Tryz.underlying109 (by kernel_rfl) rfl (by decide);intro j c b;have b:(bif Nat.beq j 0 then some oQ else bif Nat.beq j 1 then some yP else none)=some c:=b;cases a:Nat.beq j 0 with
 |true=>rw[a]at b;refine m j c ?_;show(bif Nat.beq j 0 then some oQ else none)=some c;rw[a];exact b
 |false=>rw[a]at b;exact l j c b
end
end Go.T9
