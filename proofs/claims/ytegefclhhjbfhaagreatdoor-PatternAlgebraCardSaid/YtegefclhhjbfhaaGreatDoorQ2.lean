/- A part of the proof. -/
import Derived.Test.YtegefclhhjbfhaaGreatDoorQ1
import Derived.Test.YtegefclhhjbfhaaGreatDoorX2
import Derived.Test.YtegefclhhjbfhaaGreatDoorX4
import Derived.Test.YtegefclhhjbfhaaGreatDoorX1
import Derived.Test.YtegefclhhjbfhaaGreatDoorY1
import Derived.Test.YtegefclhhjbfhaaGreatDoorC
import Derived.Test.YtegefclhhjbfhaaGreatDoorF2
import Derived.KernelRfl
set_option linter.unusedVariables false
set_option linter.unusedSimpArgs false
set_option linter.unusedSectionVars false
set_option maxRecDepth 1000000
set_option maxHeartbeats 400000
namespace Go.T9
open Go Go.AM Go.MK Go.HK Go.Proofs.Tryz
noncomputable section
theorem L2(K:KV)(s:Int)(acc:Li)(nx:La)(e:Int):jTd K s acc nx e=(HFs [O_ acc,E_ nx,Value.agg ⟨[]⟩,j_ (u8v (auT [] (s,g_ acc,c_ nx)))] (PH (Prod.fst (some ((([]:Lh)=[]/\([]:Lh)=[]/\(0:Nat)=(0:Nat))/\(Value.agg (Array.mk [Vi s,O_ acc,E_ nx])=Value.agg (Array.mk [Vi s,O_ (g_ acc),E_ (c_ nx)])/\TOk (s,g_ acc,c_ nx))/\(0:Nat)<=(1000:Nat)),J6,[r_ [h_ 2 0 (n_ (auT [] (s,g_ acc,c_ nx)))] 38,AObj.dead,o_ (u8v (auT [] (s,g_ acc,c_ nx))) 5])))/\HFs [j_ (u8v (auT [] (s,g_ acc,c_ nx))),j_ (u8v (Kd (auT [] (s,g_ acc,c_ nx)) e))] (PH (Prod.fst (some ((([]:Lh)=[]/\u8v (auT [] (s,g_ acc,c_ nx))=u8v (D_ (auT [] (s,g_ acc,c_ nx)))/\List.length (auT [] (s,g_ acc,c_ nx))=List.length (u8v (auT [] (s,g_ acc,c_ nx))))/\(0<=e/\e<301)/\List.length (u8v (auT [] (s,g_ acc,c_ nx)))<=1000000000),J6,[r_ [h_ 2 0 (n_ (Kd (auT [] (s,g_ acc,c_ nx)) e))] 38,AObj.dead,o_ (u8v (Kd (auT [] (s,g_ acc,c_ nx)) e)) 5])))/\IsB (u8v (Kd (auT [] (s,g_ acc,c_ nx)) e)) 0 (n_ (Kd (auT [] (s,g_ acc,c_ nx)) e))/\K (Vs (ao (u8L (u8v (Kd (auT [] (s,g_ acc,c_ nx)) e)) 0 (n_ (Kd (auT [] (s,g_ acc,c_ nx)) e))))) (V_ (J5 (Sg AObj.dead) (r_ [h_ 4 0 (n_ (Kd (auT [] (s,g_ acc,c_ nx)) e))] 38)) (k_ s acc nx) (Ns (Sg (o_ (u8v (Kd (auT [] (s,g_ acc,c_ nx)) e)) 5)) AObj.dead Lf) 5)):=by kernel_rfl
theorem jTd_nf:type_of%(by have h:=@L2;revert h;delta b_ c_ g_ h_ j_ k_ n_ o_ r_ v_ D_ E_ O_ V_ J5 J6 Kd;exact id):=@L2
theorem XTd_ok:XTd.Ok:=⟨ak,aA,an,.cons at_tab (.cons rO .nil)⟩
def tdT(a:AU)(e:Int):LB:=ikT (auT [] a) e.toNat
theorem Cc{a:AU}(h:TOk a){e:Int}(f:0<=e/\e<301):Walk env f5 [auV a,.int .i64 e] (.string (ao (tdT a e))):=by
 have j:(auT [] a).length<=400000:=by have q:=qa a.2.2 (ikT (bsT (ikT [] a.1.toNat) a.2.1) a.2.2.length) λr c=>(h.row r c).1;have p:=dW (bsT (ikT [] a.1.toNat) a.2.1) a.2.2.length;have o:=xC (ikT [] a.1.toNat) a.2.1;have n:=dW [] a.1.toNat;have m:([]:LB).length=0:=rfl;have l:=h.acc;have k:=h.nx;unfold auT;omega
 unfold tdT;refine frzR XTd_ok (d:=3) ((jTd_nf _ a.1 a.2.1 a.2.2 e).mpr ?_);rw[aT,aO];have g:((a.1,a.2.1,a.2.2):AU)=a:=rfl;rw[g,lU];have b:∀ T:LB,(u8v T).length=T.length:=λT=>GB _;generalize auT [] a=t0 at*;obtain⟨i,b2⟩:=isB_u (ikT t0 e.toNat);rw[b2];have l0:=b t0;refine⟨⟨.dat (aG _),.dat (aC _),be [],be _,⟨⟨rfl,rfl,rfl⟩,⟨rfl,h⟩,by omega⟩⟩,⟨be _,be _,⟨⟨rfl,rfl,by omega⟩,f,by omega⟩⟩,i,.same (.scal rfl)⟩
def tdXG(g:AU->Int->LB):Lh->Lj
 | [v,.int .i64 e]=>(match auQ v with|some a=>some (.string (ao (g a e)))|none=>none)
 |_=>none
def tdP:Lh->Ll
 | [v,.int .i64 e]=>some ((v=auV (auD v)/\TOk (auD v))/\0<=e/\e<301)
 |_=>none
theorem td_tab:∀ args A p v A',bw tdP (tdXG tdT) args A=some (p,v,A')->PH p->CallAt env 5 args A v A':=de ak an (fn:=f5) rfl λargs v h c=>by unfold tdXG at h;split at h;rename_i u e;obtain⟨⟨b,g⟩,f⟩:(u=auV (auD u)/\TOk (auD u))/\0<=e/\e<301:=c;split at h;rename_i a d;cases h;rw[ic b d];have:=Cc g f;rw[<-b]at this;exact⟨HF.cons (by rw[b];exact iP _) (HF.cons (HFi _ _) HF.nil),this⟩;cases h;cases h
def rdXG(f:AU->AU×Int):Lh->Lj
 | [v]=>(match auQ v with|some a=>some (auE (f a).1 (f a).2)|none=>none)
 |_=>none
theorem x8(a:AU)(e:Int):HF (auE a e):=.tuple (HF.cons (iP a) (HF.cons (HFi _ _) HF.nil))
end
end Go.T9
set_option maxRecDepth 100000
namespace Go.T9
open Go.HK
section
variable {δ :Nat->Nat->Nat}{n x0:Nat}{acc:Nat->Bool}
def rfP(δ :Nat->Nat->Nat)(acc:Nat->Bool)(x0:Nat)(k:Nat):Prop:=∃ s∈rfL δ x0,rfC δ acc x0 s=k
theorem RA.num(h:RA δ n x0):(∀a b,rfP δ acc x0 a->rfP δ acc x0 b->bH δ id acc (repM (rfL δ x0) (rfC δ acc x0) a)=bH δ id acc (repM (rfL δ x0) (rfC δ acc x0) b)->a=b)/\
 (∀b,rfP δ acc x0 b->(rfSc δ acc x0 b).map (λk=>bH δ id acc (repM (rfL δ x0) (rfC δ acc x0) k))=scL 256 (bH δ id acc (repM (rfL δ x0) (rfC δ acc x0) b)))/\
 (∀b,rfP δ acc x0 b->∀ x∈rfSc δ acc x0 b,rfP δ acc x0 x):=kA h.cl (h.cls acc)
theorem RA.ei2(h:RA δ n x0)(acc:Nat->Bool):EI (rfSc δ acc x0) (rfP δ acc x0) 90001 (rfC δ acc x0 x0) (rfO δ acc x0) (rfO δ acc x0).length:=by
 have f:=h.n1;have d:=h.len;have:=EI.run (sc:=rfSc δ acc x0) (P:=rfP δ acc x0) (N:=90001) (st:=rfC δ acc x0 x0) (h.num).2.2 (λl hd b=>by
  have:=cW (l:=l) (m:=(rfL δ x0).map (rfC δ acc x0)) hd λk c=>by obtain⟨s,a,e⟩:=b k c;exact GA.2 ⟨s,a,e⟩
  rw[GB]at this;omega) 90001 (EI.init ⟨x0,h.mem,rfl⟩) rfl
 rw[kp]at this;exact this
theorem RA.olen(h:RA δ n x0)(acc:Nat->Bool):(rfO δ acc x0).length<=n:=by
 have c:=h.len;have:=cW (l:=rfO δ acc x0) (m:=(rfL δ x0).map (rfC δ acc x0)) (h.ei2 acc).nd λk b=>by obtain⟨s,a,e⟩:=(h.ei2 acc).inp k b;exact GA.2 ⟨s,a,e⟩
 rw[GB]at this;omega
def stM(δ :Nat->Nat->Nat)(acc:Nat->Bool)(x0 k c:Nat):Nat:=rfC δ acc x0 (δ (repM (rfL δ x0) (rfC δ acc x0) k) c)
def acM(δ :Nat->Nat->Nat)(acc:Nat->Bool)(x0 k:Nat):Bool:=acc (repM (rfL δ x0) (rfC δ acc x0) k)
theorem vO{S:Type}[DecidableEq S](st:S->Nat->S)(ac:S->Bool)(k:S):e6 st ac k []=ac k:=rfl
theorem tz{S:Type}[DecidableEq S](st:S->Nat->S)(ac:S->Bool)(k:S)(c:Nat)(w:Lg):e6 st ac k (c::w)=e6 st ac (st k (c%256)) w:=rfl
theorem tC(δ :Nat->Nat->Nat)(acc:Nat->Bool)(x c:Nat)(w:Lg):bH δ id acc x (c::w)=bH δ id acc (δ x c) w:=rfl
theorem RA.lang2(h:RA δ n x0):∀ (w:Lg) (k:Nat),rfP δ acc x0 k->e6 (stM δ acc x0) (acM δ acc x0) k w=bH δ id acc (repM (rfL δ x0) (rfC δ acc x0) k) w:=by
 have e:=h.cl;have d:=h.cls acc;have a:=h.per;unfold rfP stM acM;generalize rfL δ x0=l at*;generalize rfC δ acc x0=cl at*;intro w;induction w with
 |nil=>intro k _;rw[vO,j9]
 |cons c w j=>intro k m;obtain⟨f,o⟩:=fP m;have b:=e _ f (c%256);obtain⟨i,g⟩:=fP (l:=l) (cl:=cl) ⟨_,b,rfl⟩;rw[tz,tC,j _ ⟨_,b,rfl⟩,a _ c];exact congrFun ((d _ i _ b).1 g) w
def c256:Le:=(List.range 256).map Int.ofNat
theorem xy(c:Nat):clN c256 c=c%256:=by unfold clN c256;rw[GF,GR,List.getElem?_range (IN _ (by decide))];rfl
def lsAU(δ :Nat->Nat->Nat)(acc:Nat->Bool)(x0:Nat):AU:=(0,rfA δ acc x0,(rfT δ acc x0).map λr=>r.map Int.ofNat)
theorem qN(δ :Nat->Nat->Nat):∀ (w:Lg) (x:Nat),runW (λx c=> δ x (c%256)) x w=runW δ x (w.map λc=>c%256)
 | [],x=>rfl
 |c::w,x=>qN δ w (δ x (c%256))
theorem rx{S:Type}[DecidableEq S]{st:S->Nat->S}{P:S->Prop}{N:Nat}{a:S}{ks:List S}(h:EI (λk=>(List.range 256).map (st k)) P N a ks ks.length)(ac:S->Bool):
 bK (0,ks.map ac,ba (λk=>(List.range 256).map (st k)) ks ks.length)=e6 st ac a:=by
 have b:=h.hd;have f:a∈ks:=GM b;have g:idN ks a=0:=by
  cases ks with
  |nil=>simp at b
  |cons x ks=>simp at b;subst b;simp[idN]
 funext w;have:=mP (C:=c256) h (λc d=>⟨c,by have e:=xy c;unfold clN at e;rw[IR d]at e;rw[e,List.getElem?_range d],λ_ _=>rfl⟩) ac w f
 rw[g]at this;rw[<-this];unfold bK bH;rw[Il];show acN (ks.map ac) (runW (λx c=>dlt (ba (λk=>(List.range 256).map (st k)) ks ks.length) x (c%256)) 0 w)=_;rw[qN];congr 2;exact Ha λc _=>(xy c).symm
theorem RA.lang(h:RA δ n x0)(acc:Nat->Bool):bK (lsAU δ acc x0)=bH δ id acc x0:=by have e:=h.ei2 acc;have a:rfP δ acc x0 (rfC δ acc x0 x0):=⟨x0,h.mem,rfl⟩;have b:=rx (st:=stM δ acc x0) e (acM δ acc x0);have g:ba (λk=>(List.range 256).map (stM δ acc x0 k)) (rfO δ acc x0) (rfO δ acc x0).length=(rfT δ acc x0).map λr=>r.map Int.ofNat:=nW _ _;rw[g]at b;have f:bK (lsAU δ acc x0)=e6 (stM δ acc x0) (acM δ acc x0) (rfC δ acc x0 x0):=b;rw[f];obtain⟨d,c⟩:=fP a;rw[<-(h.cls acc _ d _ h.mem).1 c];funext w;exact h.lang2 w _ a
theorem RA.tab(h:RA δ n x0)(acc:Nat->Bool):∀ r∈rfT δ acc x0,r.length=256/\∀ x∈r,x<(rfO δ acc x0).length:=λr a=>by have f:=h.ei2 acc;unfold rfT tabK at a;obtain⟨k,e,rfl⟩:=GA.1 a;refine⟨by rw[GB];unfold rfSc scM;simp,λx c=>?_⟩;obtain⟨s,d,rfl⟩:=GA.1 c;obtain⟨i,b⟩:=List.mem_iff_getElem?.1 e;exact rF (f.cl i k (GE.1 b).1 b s d)
theorem RA.tlen(acc:Nat->Bool):(rfT δ acc x0).length=(rfO δ acc x0).length/\(rfA δ acc x0).length=(rfO δ acc x0).length:=by unfold rfT tabK rfA;rw[GB,GB];exact⟨rfl,rfl⟩
theorem RA.o0(h:RA δ n x0)(acc:Nat->Bool):0<(rfO δ acc x0).length:=Iv (GM (h.ei2 acc).hd)
end
end Go.T9
set_option maxRecDepth 1000000
namespace Go.T9
open Go Go.AM Go.MK Go.HK
noncomputable section
theorem auN_T:TOk auN:=⟨by decide,by decide,by decide,λr h=>by cases h⟩
theorem ia{b:Bool}{x y:Int}(c:0<=x/\x<301)(a:0<=y/\y<301):0<=(bif b then x else y)/\(bif b then x else y)<301:=by cases b;exact a;exact c
theorem kB(a:AU):0<=chkA a/\chkA a<301:=
 ia ⟨by decide,by decide⟩ (ia ⟨by decide,by decide⟩ (ia ⟨by decide,by decide⟩ (ia ⟨by decide,by decide⟩ ⟨by decide,by decide⟩)))
def stZ:Lh->Lj
 | []=>some (.bool true)
 |_=>none
end
end Go.T9
namespace Go.T9
open Go Go.AM Go.MK Go.Proofs.Tryz
noncomputable section
theorem vK{n:Nat}(h:n<=maxLen):n<9223372036854775808:=by unfold maxLen at h;omega
abbrev RZ:={l:Le // l.length<9223372036854775808}
theorem rc:gy Proofs.Tryz.prog 3 (λd=>∃ x:Int,d=(Value.int .i64 x).cells.toList):=by intro H e w c f a b i x g;obtain⟨d,⟨n,rfl,_⟩,h⟩:=vk Proofs.Tryz.underlying3 e w c f a b i x g;exact⟨_,⟨n,rfl⟩,h⟩
theorem yN:gy Proofs.Tryz.prog 4 (λd=>∃ x:Bool,d=(Value.bool x).cells.toList):=by intro H e w c f a b i x g;obtain⟨d,⟨n,rfl⟩,h⟩:=tf Proofs.Tryz.underlying4 e w c f a b i x g;exact⟨_,⟨n,rfl⟩,h⟩
theorem yP:gy Proofs.Tryz.prog 22 (λa=>∃ b:Li,a=[.func (.yield 1) ⟨b.map Value.bool⟩ ⟨[]⟩]/\b.length<=maxLen):=
 gc (sz:=1) (ev:=Value.bool) Proofs.Tryz.underlying22 (by kernel_rfl) (by decide) (λ_=>rfl) yN (λ_ h=>h)
theorem yL:gy Proofs.Tryz.prog 49 (λa=>∃ b:Le,a=[.func (.yield 1) ⟨b.map (Value.int .i64)⟩ ⟨[]⟩]/\b.length<=maxLen):=
 gc (sz:=1) (ev:=Value.int .i64) Proofs.Tryz.underlying49 (by kernel_rfl) (by decide) (λ_=>rfl) rc (λ_ h=>h)
theorem yK:gy Proofs.Tryz.prog 49 (λd=>∃ x:RZ,d=(dat 1 (inV x.1)).cells.toList):=by intro H e w c f a b j x g;obtain⟨d,⟨l,rfl,i⟩,h⟩:=yL e w c f a b j x g;exact⟨_,⟨⟨l,vK i⟩,rfl⟩,h⟩
theorem yM:gy Proofs.Tryz.prog 23 (λa=>∃ b:List RZ,a=[.func (.yield 1) ⟨b.map λr=>dat 1 (inV r.1)⟩ ⟨[]⟩]/\b.length<=maxLen):=
 gc (sz:=1) (ev:=λr:RZ=>dat 1 (inV r.1)) Proofs.Tryz.underlying23 (by kernel_rfl) (by decide) (λ_=>rfl) yK (λ_ h=>h)
theorem yO:gy Proofs.Tryz.prog 25 (λf=>∃ a:AU,WfA a/\Value.agg ⟨f⟩=auV a):=by intro H g w e h b d p x i;obtain⟨f,o,j⟩:=oq Proofs.Tryz.underlying25 (by kernel_rfl) (.cons (by kernel_rfl) rc (.cons (by kernel_rfl) yP (.cons (by kernel_rfl) yM .nil))) g w e h b d p x i;obtain⟨_,_,⟨s,rfl⟩,⟨_,_,⟨c,rfl,n⟩,⟨_,_,⟨r,rfl,k⟩,rfl,rfl⟩,rfl⟩,rfl⟩:=o;refine⟨_,⟨(s,c,r.map (·.1)),⟨?_,?_,λl m=>?_⟩,?_⟩,j⟩;exact vK n;dsimp only;rw[GB];exact vK k;obtain⟨x,_,rfl⟩:=GA.1 m;exact x.2;show _=Value.agg ⟨[.int .i64 s,dat 1 (blV c),dat 1 (roV (r.map (·.1)))]⟩;unfold roV;rw[Hl];rfl
theorem arg_au{H:Type}{enc:TypeId×Value->H}{w:World}{r:Reach}{i base:Nat}{sp:Nat->Bool}{held:Bool}{v:Value}{d:DataW H}{b:List MemPlace}(c:Value.okWide Proofs.Tryz.prog w r i 25 v)(g:DataW.Trod enc Proofs.Tryz.prog w base sp held 25 v d b):
 ∃a:AU,WfA a/\VR (sig0 w) (auV a) v:=by obtain⟨j,⟨a,f,e⟩,h⟩:=ud Proofs.Tryz.underlying25 yO c g;exact⟨a,f,e▸h⟩
def bruL:Le:=[0,1,56,2,57,49,28,3,61,58,42,50,38,29,17,4,62,47,59,36,45,43,51,22,53,39,33,30,24,18,12,5,63,55,48,27,60,41,37,16,46,35,44,21,52,32,23,11,54,26,40,15,34,20,31,10,25,14,19,9,13,8,7,6]
def bruD:DataW Unit:=.agg (bruL.map λx=>.lit (.int .u8 x))
def powL:Le:=[1,10,100,1000,10000,100000,1000000,10000000,100000000,1000000000,10000000000,100000000000,1000000000000,10000000000000,100000000000000,1000000000000000,10000000000000000,100000000000000000,1000000000000000000,10000000000000000000]
def powD:DataW Unit:=.agg (powL.map λx=>.lit (.int .u64 x))
def envB:Env:={env with gl:=λg=>bif Nat.beq g 0 then some o8 else none}
def envP:Env:={env with gl:=λg=>bif Nat.beq g 1 then some yA else none}
theorem bru_gl(j:Nat)(cs:Lh)(h:envB.gl j=some cs):j=0/\cs=bruL.map (Value.int .u8):=by have h:(bif Nat.beq j 0 then some o8 else none)=some cs:=h;cases a:Nat.beq j 0;rw[a]at h;cases h;rw[a]at h;simp only[C',osI]at h;subst h;exact⟨Gy a,rfl⟩
theorem pow_gl(j:Nat)(cs:Lh)(h:envP.gl j=some cs):j=1/\cs=powL.map (Value.int .u64):=by have h:(bif Nat.beq j 1 then some yA else none)=some cs:=h;cases a:Nat.beq j 1;rw[a]at h;cases h;rw[a]at h;simp only[C',osI]at h;subst h;exact⟨Gy a,rfl⟩
theorem xD:Proofs.Tryz.prog.globalNamed "math/bits.deBruijn64tab" =some 0:=by kernel_rfl
theorem z5:(Proofs.Tryz.prog.globals[0]?).map (·.type)=some 166:=by kernel_rfl
theorem FX:Proofs.Tryz.prog.underlying 166=some (.array 64 5):=Proofs.Tryz.underlying166
theorem vg:Proofs.Tryz.prog.globalNamed "internal/strconv.uint64pow10" =some 1:=by kernel_rfl
theorem yz:(Proofs.Tryz.prog.globals[1]?).map (·.type)=some 168:=by kernel_rfl
theorem C7:Proofs.Tryz.prog.underlying 168=some (.array 20 109):=Proofs.Tryz.underlying168
theorem glob_laid{laid:List (String×DataW Unit)}{w:World}(i:("math/bits.deBruijn64tab",bruD)∈laid)(d:("internal/strconv.uint64pow10",powD)∈laid)(f:(laid.all λx=>x.2.handleName?.isNone)=true)(h:laidMetH Proofs.Tryz.prog laid w):Glob env (sig0 w):=by
 rw[MakeChecks.laidMetH_plain _ _ _ f]at h;have m:Glob envB (sig0 w):=wH (E:=envB) (ls:=bruL) (k:=.u8) (len:=64) (e:=5) (t:=166) (g:=0) bru_gl i h xD z5 FX Proofs.Tryz.underlying5 (by kernel_rfl) rfl (by decide);have l:Glob envP (sig0 w):=wH (E:=envP) (ls:=powL) (k:=.u64) (len:=20) (e:=109) (t:=168) (g:=1) pow_gl d h vg yz C7 Proofs.Tryz.underlying109 (by kernel_rfl) rfl (by decide);intro j c b;have b:(bif Nat.beq j 0 then some o8 else bif Nat.beq j 1 then some yA else none)=some c:=b;cases a:Nat.beq j 0 with
 |true=>rw[a]at b;refine m j c ?_;show(bif Nat.beq j 0 then some o8 else none)=some c;rw[a];exact b
 |false=>rw[a]at b;exact l j c b
end
end Go.T9
