/- A part of the proof. -/
import Derived.Test.YthnclaleojkecaaGreatDoorY0
set_option linter.unusedVariables false
set_option linter.unusedSimpArgs false
set_option maxRecDepth 1000000
namespace Go.T9
open Go Go.AM Go.Proofs.Tryz
noncomputable section
abbrev AU:=Int×Li×La
variable {t:ByteArray}{n:Int}{l:Le}{i:Nat}
def blV(l:Li):Lh:=l.map Value.bool
def inV(l:Le):Lh:=l.map (Value.int .i64)
def roV(l:La):Lh:=l.map λr=>dat 1 (inV r)
def auV(a:AU):Value:=.agg ⟨[.int .i64 a.1,dat 1 (blV a.2.1),dat 1 (roV a.2.2)]⟩
def deI:Value->Int
 | .int _ n=>n
 |_=>0
def deB:Value->Bool
 | .bool b=>b
 |_=>false
def deR:Value->Le
 | .func _ ⟨l⟩ _=>l.map deI
 |_=>[]
theorem dp(l:Le):(inV l).map deI=l:=by
 unfold inV;rw[Hp];conv=>rhs;rw[<-HZ l]
 exact GT λx _=>rfl
theorem cx(l:Li):(blV l).map deB=l:=by
 unfold blV;rw[Hp];conv=>rhs;rw[<-HZ l]
 exact GT λx _=>rfl
theorem bX(l:La):(roV l).map deR=l:=by
 unfold roV;rw[Hp];conv=>rhs;rw[<-HZ l]
 exact GT λx _=>dp x
theorem ph(l:Le):∀ x∈inV l,HF x:=λx a=>by obtain⟨n,_,rfl⟩:=Gv.1 a;exact HFi _ _
theorem aN(l:Li):∀ x∈blV l,HF x:=λx a=>by obtain⟨n,_,rfl⟩:=Gv.1 a;exact HFb _
theorem aK(l:La):∀ x∈roV l,HF x:=λx a=>by obtain⟨n,_,rfl⟩:=Gv.1 a;exact .dat (ph n)
theorem nD(a:AU):HF (auV a):=.agg (HF.cons (HFi _ _) (HF.cons (.dat (aN _)) (HF.cons (.dat (aK _)) HF.nil)))
theorem aP(h:i<l.length):nth (inV l) i=some (.int .i64 l[i]):=by rw[aS];simp[inV,h]
theorem aq(h:i<l.length):aa (inV l) (i:Int)=l[i]:=by unfold aa;rw[Gs,aP h]
theorem di{l:Li}(h:i<l.length):nth (blV l) i=some (.bool l[i]):=by rw[aS];simp[blV,h]
theorem bv{l:Li}(h:i<l.length):aG (blV l) (i:Int)=l[i]:=by unfold aG;rw[Gs,di h]
def ae(els:Lh)(i:Int):Lh:=match nth els i.toNat with|some (.func _ ⟨l⟩ _)=>l|_=>[]
theorem cK{l:La}(h:i<l.length):nth (roV l) i=some (dat 1 (inV l[i])):=by rw[aS];simp[roV,h]
theorem bM{l:La}(h:i<l.length):ae (roV l) (i:Int)=inV l[i]:=by unfold ae;rw[Gs,cK h];rfl
theorem ah(l:Le):(inV l).length=l.length:=Gu _
theorem bc(l:Li):(blV l).length=l.length:=Gu _
theorem aL(l:La):(roV l).length=l.length:=Gu _
def elI:El:=.of λ_ _ els i=>some (.int .i64 (aa els i))
def elRw:El:=.of λ_ _ els i=>some (.func (.yield 1) ⟨ae els i⟩ ⟨[]⟩)
def outI(n x:Int):Bool:=decide (x<0)||decide (n<=x)
def ixF{α :Type}(p: α ->Bool):List α ->Nat->Int
 | [],_=> -1
 |x::l,i=>bif p x then(i:Int)else ixF p l (i+1)
def XIx:SX:=⟨env,[],elI,λ_=>.autoN [] [] [] [0,1,7,8]⟩
theorem BA:XIx.Ok:=⟨am,aE,ap,.nil⟩
def hIx(n:Int):AH:=⟨Nd Lf (some (.cells [.int .i64 n] 3)) Lf,1⟩
def cOut(B:Nat):Value:=.func (.func 15) ⟨[]⟩ ⟨[.pointer (some ⟨B,0,none⟩)]⟩
def frIx(l:Le)(i:Nat):T Value:=(Nd (Nd (Nd (Nd Lf (some (.int .i64 (inV l).length)) Lf) none Lf) (some (cOut 0)) Lf) (some (dat 1 (inV l))) (Nd (Nd (Nd Lf (some (.int .i64 i)) Lf) none Lf) none Lf))
def kFinIx(K:KV):KX:=finK XIx.E (f31.results).toList K
def jIx(K:KV)(n:Int)(l:Le):Prop:=bh XIx 2 f31 [dat 1 (inV l),cOut 0] (hIx n) K
def jIxL(K:KV)(again:KF)(n:Int)(l:Le)(i:Nat):Prop:=aI XIx 2 (Func.ntmps f31) (hIx n) (au f31) [1,0,1,0] (kFinIx K) [] [] [] [0,1,7,8] again (frIx l i) (hIx n)
theorem jIx_nf(K:KV)(n:Int)(l:Le):jIx K n l=(HF (Vd 1 (inV l))/\LAtZ XIx 2 f31.ntmps (hIx n) (au f31) [1,0,1,0] (finK (SX.E XIx) f31.results.toList K) (Ns (Ns (No (Sg (Vi (↑(List.length (inV l)):Int))) Lf) (Value.func (Go.Fn.func 15) ⟨[]⟩ (Array.mk [Value.pointer (some ⟨0,0,none⟩)])) Lf) (Vd 1 (inV l)) (No (No (Sg (Vi 0)) Lf) Lf)) (AH.mk (Sg (AObj.cells [Vi n] 3)) 1)):=by kernel_rfl
abbrev h_:=Value.pointer (some ⟨0,0,none⟩)
abbrev j_{A:Type}:=λ(a:List A)=>(↑(List.length a):Int)
abbrev n_:=λa b=>AObj.cells a b
abbrev o_:=λa b c=>Value.func (Go.Fn.func a) ⟨b⟩ (Array.mk c)
abbrev t_{α:Type}(a:T α):T α:=No (No a Lf) Lf
abbrev v_:=λa=>Sg (Vi (IntKind.wrap .i64 a))
abbrev F_{α:Type}(a:α):T α:=No (Sg a) Lf
abbrev P_:=λa b=>aa (inV a) b
abbrev Kd{α:Type}(a:T α)(b:α):T α:=Ns a b Lf
abbrev Ks:=λa b=>Sg (n_ a b)
theorem LG(K:KV)(again:KF)(n:Int)(l:Le)(i:Nat):jIxL K again n l i=(Sp (decide ((i:Int)<j_ (inV l))) ((0<=(i:Int)/\(i:Int)<j_ (inV l))/\nth (inV l) i=some (Vi (P_ l i))/\Sp (decide (aa (inV l) (i:Int)<0)) (K (Vi i) (AH.mk (Ks [Vi n] 3) 1)) (Sp (decide (n<=aa (inV l) i)) (K (Vi i) (AH.mk (Ks [Vi n] 3) 1)) (HF (Vd 1 (inV l))/\again (Ns (Kd (F_ (Vi (j_ (inV l)))) (o_ 15 [] [h_])) (Vd 1 (inV l)) (t_ (v_ ((i:Int)+1)))) (AH.mk (Ks [Vi n] 3) 1)))) (K (Vi (-1:Int)) (AH.mk (Ks [Vi n] 3) 1))):=by kernel_rfl
theorem DE:type_of%(by have h:=@LG;revert h;delta h_ j_ n_ o_ t_ v_ F_ P_ Kd Ks;exact id):=@LG
theorem rK{a :Type}{p: a ->Bool}{l:List a}(h:i<l.length):ixF p (l.drop i) i=bif p l[i]then(i:Int)else ixF p (l.drop (i+1)) (i+1):=by rw[Hj h];rfl
theorem v4{a :Type}{p: a ->Bool}{l:List a}(h:l.length<=i):ixF p (l.drop i) i= -1:=by rw[Hy h];rfl
theorem ixF_neg{a :Type}{p: a ->Bool}:∀ {l:List a}{i:Nat},(0<=ixF p l i)↔l.any p=true
 | [],i=>by simp[ixF]
 | x::l,i=>by
  simp only[ixF,List.any_cons];cases b:p x with
  |true=>simp
  |false=>simpa using ixF_neg (l:=l)
theorem wW(Q:Value->AH->Prop)(n x:Int):endF env (hIx n) [] [] [] Q (.int .i64 x) (hIx n)=Q (.int .i64 x) (hIx n):=by kernel_rfl
theorem Ei(n:Int)(l:Le)(g:l.length<9223372036854775808):WalkF env f31 [dat 1 (inV l),cOut 0] (hIx n) (.int .i64 (ixF (outI n) l 0)) (hIx n):=by
 refine aJ BA (d:=2) (ns:=[]) (zs:=[]) (ws:=[]) ((jIx_nf _ n l).mpr ⟨.dat (ph l),?_⟩);refine LAtZ.stepF BA [] [] [] [0,1,7,8] (by kernel_rfl) (λk F A=>∃ i:Nat,F=frIx l i/\A=hIx n/\i+k=l.length/\ixF (outI n) l 0=ixF (outI n) (l.drop i) i) ?_ (k:=l.length) ⟨0,rfl,rfl,by omega,by simp⟩;rintro k F A ⟨i,rfl,rfl,f,a⟩;refine(DE _ _ n l i).mpr (Sp.intro (λh=>?_) (λh=>?_));have h:=odt h;rw[ah]at h;have b:i<l.length:=by omega
 rw[rK b]at a;refine⟨⟨by omega,by rw[ah];exact h⟩,by rw[aP b,aq b],?_⟩;rw[aq b];refine Sp.intro (λc=>?_) (λc=>?_);refine(wW _ n i).mpr ⟨?_,rfl⟩;rw[a];unfold outI;rw[c];rfl;refine Sp.intro (λe=>?_) (λe=>?_);refine(wW _ n i).mpr ⟨?_,rfl⟩;rw[a];unfold outI;rw[c,e];rfl;refine⟨.dat (ph l),k-1,by omega,i+1,?_,rfl,by omega,?_⟩;rw[aA (x:=(i:Int)+1) (by omega) (by omega)];rfl;rw[a];unfold outI;rw[c,e];rfl;have h:=odf h;rw[ah]at h;refine(wW _ n (-1)).mpr ⟨?_,rfl⟩;rw[a,v4 (by omega)]
def IsI(l:Lh):Prop:=l=inV (l.map deI)/\l.length<9223372036854775808
theorem isI_in(h:l.length<9223372036854775808):IsI (inV l):=⟨by rw[dp],by rw[ah];exact h⟩
def noAr:TypeId->Lk:=λ_=>none
def spIx:Lh->List AObj->Option (Ll×Value×List AObj)
 | [.func (.yield sz) ⟨l⟩ ⟨[]⟩,.func (.func g) ⟨[]⟩ ⟨[.pointer (some ⟨B,o,none⟩)]⟩],[.cells [.int .i64 n] e]=>
   bif (Nat.beq sz 1&&Nat.beq g 15)&&((Nat.beq B 0&&Nat.beq o 0)&&Nat.beq e 3)then some (some (IsI l),.int .i64 (ixF (outI n) (l.map deI) 0),[.cells [.int .i64 n] e])else none
 |_,_=>none
theorem EC(n:Int):aW [.cells [.int .i64 n] 3]=hIx n:=by kernel_rfl
theorem ix_tab:∀ args A p v A',frmR noAr spIx args A=some (p,v,A')->PH p->CallAt env 31 args A v A':=be am (fn:=f31) rfl λargs c p v b h f=>by unfold spIx at h;split at h;rename_i d l g B o n e;cases a:(Nat.beq d 1&&Nat.beq g 15)&&((Nat.beq B 0&&Nat.beq o 0)&&Nat.beq e 3);rw[a]at h;cases h;rw[a]at h;simp only[D',osI,Gx]at h;obtain⟨rfl,rfl,rfl⟩:=h;simp only[f',GG]at a;obtain⟨⟨rfl,rfl⟩,⟨rfl,rfl⟩,rfl⟩:=a;obtain⟨k,j⟩:IsI l:=f;have:=Ei n (l.map deI) (by simpa using j);rw[<-k]at this;rw[EC];exact this;cases h
def XRx:SX:=⟨env,[(31,frmR noAr spIx)],elRw,λ_=>.autoN [] [] [] [0,1,7,8]⟩
theorem Bx:XRx.Ok:=⟨am,aE,ap,.cons ix_tab .nil⟩
def hRx(n:Int):AH:=⟨Nd (Nd Lf (some (.cells [.int .i64 n] 3)) Lf) (some (.cells [cOut 1] 38)) Lf,2⟩
def cRow(B:Nat):Value:=.func (.func 17) ⟨[]⟩ ⟨[.pointer (some ⟨B,0,none⟩)]⟩
def frRx(l:La)(i:Nat):T Value:=(Nd (Nd (Nd (Nd Lf (some (.int .i64 (roV l).length)) Lf) none Lf) (some (cRow 0)) Lf) (some (dat 1 (roV l))) (Nd (Nd (Nd Lf (some (.int .i64 i)) Lf) none Lf) none Lf))
def kFinRx(K:KV):KX:=finK XRx.E (f30.results).toList K
def jRx(K:KV)(n:Int)(l:La):Prop:=bh XRx 4 f30 [dat 1 (roV l),cRow 0] (hRx n) K
def jRxL(K:KV)(again:KF)(n:Int)(l:La)(i:Nat):Prop:=aI XRx 4 (Func.ntmps f30) (hRx n) (au f30) [1,0,1,0] (kFinRx K) [] [] [] [0,1,7,8] again (frRx l i) (hRx n)
abbrev c_:=λa b=>Value.pointer (some ⟨a,b,none⟩)
abbrev W_:=λa=>Vd 1 (roV a)
abbrev M':=λa=>Sg (Vi a)
abbrev Kh:=λa=>j_ (roV a)
abbrev K9:=λa=>HF (W_ a)
theorem LJ(K:KV)(n:Int)(l:La):jRx K n l=(K9 l/\LAtZ XRx 4 f30.ntmps (hRx n) (au f30) [1,0,1,0] (finK (SX.E XRx) f30.results.toList K) (Ns (Kd (F_ (Vi (Kh l))) (o_ 17 [] [h_])) (W_ l) (t_ (M' 0))) (AH.mk (Kd (Ks [Vi n] 3) (n_ [o_ 15 [] [c_ 1 0]] 38)) 2)):=by kernel_rfl
theorem jRx_nf:type_of%(by have h:=@LJ;revert h;delta c_ h_ j_ n_ o_ t_ F_ W_ M' Kd Kh Ks K9;exact id):=@LJ
abbrev KA:=λa b=>ae (roV a) b
theorem LK(K:KV)(again:KF)(n:Int)(l:La)(i:Nat):jRxL K again n l i=(Sp (decide ((i:Int)<Kh l)) ((0<=(i:Int)/\(i:Int)<Kh l)/\nth (roV l) i=some (Vd 1 (KA l i))/\HFs [Vd 1 (KA l i)] (PH (Prod.fst (some (IsI (KA l i)),Vi (ixF (outI n) (List.map deI (KA l i)) 0),[n_ [Vi n] 3])))/\Sp (decide (0<=ixF (outI n) (List.map deI (KA l i)) 0)) (K (Vi i) (AH.mk (Kd (Ks [Vi n] 3) (n_ [o_ 15 [] [c_ 1 0]] 38)) 2)) (K9 l/\again (Ns (Kd (F_ (Vi (Kh l))) (o_ 17 [] [h_])) (W_ l) (t_ (v_ ((i:Int)+1)))) (AH.mk (Kd (Ks [Vi n] 3) (n_ [o_ 15 [] [c_ 1 0]] 38)) 2))) (K (Vi (-1:Int)) (AH.mk (Kd (Ks [Vi n] 3) (n_ [o_ 15 [] [c_ 1 0]] 38)) 2))):=by kernel_rfl
theorem Dn:type_of%(by have h:=@LK;revert h;delta c_ h_ j_ n_ o_ t_ v_ F_ W_ Kd Kh Ks KA K9;exact id):=@LK
theorem Bl(Q:Value->AH->Prop)(n x:Int):endF env (hRx n) [] [] [] Q (.int .i64 x) (hRx n)=Q (.int .i64 x) (hRx n):=by kernel_rfl
def outR(n:Int)(r:Le):Bool:=r.any (outI n)
theorem CE(n:Int)(l:La)(m:l.length<9223372036854775808)(g:∀ r∈l,r.length<9223372036854775808):WalkF env f30 [dat 1 (roV l),cRow 0] (hRx n) (.int .i64 (ixF (outR n) l 0)) (hRx n):=by
 refine aJ Bx (d:=4) (ns:=[]) (zs:=[]) (ws:=[]) ((jRx_nf _ n l).mpr ⟨.dat (aK l),?_⟩);refine LAtZ.stepF Bx [] [] [] [0,1,7,8] (by kernel_rfl) (λk F A=>∃ i:Nat,F=frRx l i/\A=hRx n/\i+k=l.length/\ixF (outR n) l 0=ixF (outR n) (l.drop i) i) ?_ (k:=l.length) ⟨0,rfl,rfl,by omega,by simp⟩;rintro k F A ⟨i,rfl,rfl,j,a⟩;refine(Dn _ _ n l i).mpr (Sp.intro (λh=>?_) (λh=>?_));have h:=odt h;rw[aL]at h;have b:i<l.length:=by omega
 have e:=g l[i] (Gy b);rw[rK b]at a;rw[bM b,dp];refine⟨⟨by omega,by rw[aL];exact h⟩,cK b,⟨.dat (ph _),isI_in e⟩,Sp.intro (λc=>?_) (λc=>?_)⟩;have c:outR n l[i]=true:=ixF_neg.1 (odt c);refine(Bl _ n i).mpr ⟨?_,rfl⟩;rw[a,c];rfl;have c:outR n l[i]=false:=by
  have:=λh=>odf c (ixF_neg.2 h);unfold outR;cases f:l[i].any (outI n)with
  |true=>exact absurd f this
  |false=>rfl
 refine⟨.dat (aK l),k-1,by omega,i+1,?_,rfl,by omega,?_⟩;rw[aA (x:=(i:Int)+1) (by omega) (by omega)];rfl;rw[a,c];rfl;have h:=odf h;rw[aL]at h;refine(Bl _ n (-1)).mpr ⟨?_,rfl⟩;rw[a,v4 (by omega)]
def IsR(l:Lh):Prop:=l=roV (l.map deR)/\l.length<9223372036854775808/\∀ r∈l.map deR,r.length<9223372036854775808
theorem isR_ro{l:La}(h:l.length<9223372036854775808)(a:∀ r∈l,r.length<9223372036854775808):IsR (roV l):=⟨by rw[bX],by rw[aL];exact h,by rw[bX];exact a⟩
def spRx:Lh->List AObj->Option (Ll×Value×List AObj)
 | [.func (.yield sz) ⟨l⟩ ⟨[]⟩,.func (.func g) ⟨[]⟩ ⟨[.pointer (some ⟨B,o,none⟩)]⟩],[.cells [.func (.func g2) ⟨[]⟩ ⟨[.pointer (some ⟨B2,o2,none⟩)]⟩] e,.cells [.int .i64 n] e2]=>
   bif ((Nat.beq sz 1&&Nat.beq g 17)&&(Nat.beq B 0&&Nat.beq o 0))&&(((Nat.beq g2 15)&&(Nat.beq B2 1&&Nat.beq o2 0))&&(Nat.beq e 38&&Nat.beq e2 3))then some (some (IsR l),.int .i64 (ixF (outR n) (l.map deR) 0),[.cells [cOut 1] e,.cells [.int .i64 n] e2])else none
 |_,_=>none
theorem Ew(n:Int):aW [.cells [cOut 1] 38,.cells [.int .i64 n] 3]=hRx n:=by kernel_rfl
theorem rx_tab:∀ args A p v A',frmR noAr spRx args A=some (p,v,A')->PH p->CallAt env 30 args A v A':=be am (fn:=f30) rfl λargs c p v b h k=>by unfold spRx at h;split at h;rename_i f l g B o s w j e n u;cases a:((Nat.beq f 1&&Nat.beq g 17)&&(Nat.beq B 0&&Nat.beq o 0))&&(((Nat.beq s 15)&&(Nat.beq w 1&&Nat.beq j 0))&&(Nat.beq e 38&&Nat.beq u 3));rw[a]at h;cases h;rw[a]at h;simp only[D',osI,Gx]at h;obtain⟨rfl,rfl,rfl⟩:=h;simp only[f',GG]at a;obtain⟨⟨⟨rfl,rfl⟩,rfl,rfl⟩,⟨rfl,rfl,rfl⟩,rfl,rfl⟩:=a;obtain⟨r,q,m⟩:IsR l:=k;have:=CE n (l.map deR) (by simpa using q) m;rw[<-r]at this;have d:=Ew n;unfold cOut at d;unfold cOut;rw[d];exact this;cases h
def chkA(a:AU):Int:=bif decide (300<(a.2.2.length:Int))then 3 else bif decide ((a.2.2.length:Int)=0)|| !decide ((a.2.1.length:Int)=a.2.2.length)then 2 else bif a.2.2.any (λr=> !decide ((r.length:Int)=256))then 2 else bif outI a.2.2.length a.1||a.2.2.any (outR a.2.2.length)then 9 else 0
def WfA(a:AU):Prop:=a.2.1.length<9223372036854775808/\a.2.2.length<9223372036854775808/\∀ r∈a.2.2,r.length<9223372036854775808
def XCa:SX:=⟨env,[(30,frmR noAr spRx)],elRw,λ_=>.autoN [] [] [] [1,3,24,25,26]⟩
theorem BJ:XCa.Ok:=⟨am,aE,ap,.cons rx_tab .nil⟩
def hCa(s n:Int)(acc nx:Lh):AH:=⟨Nd (Nd Lf (some (.cells [.int .i64 n] 3)) Lf) (some (.cells [.int .i64 s,dat 1 acc,dat 1 nx] 25)) Lf,2⟩
def frCa(l:La)(i:Nat):T Value:=(Nd (Nd (Nd Lf (some (.pointer (some ⟨1,0,none⟩))) Lf) (some (.pointer (some ⟨0,0,none⟩))) (Nd (Nd Lf none (Nd Lf (some (.int .i64 (roV l).length)) Lf)) none Lf)) none (Nd (Nd (Nd Lf none (Nd Lf (some (dat 1 (roV l))) Lf)) none Lf) none (Nd (Nd Lf none (Nd Lf (some (.int .i64 i)) Lf)) none Lf)))
def kFinCa(K:KV):KX:=finK XCa.E (f5.results).toList K
def jCa(K:KV)(s:Int)(acc:Li)(nx:La):Prop:=bh XCa 5 f5 [.agg ⟨[.int .i64 s,dat 1 (blV acc),dat 1 (roV nx)]⟩] ⟨.leaf,0⟩ K
def jCaL(K:KV)(again:KF)(s:Int)(acc:Li)(nx:La)(i:Nat):Prop:=aI XCa 5 (Func.ntmps f5) ⟨.leaf,0⟩ (au f5) [1,1,1,0,1,0] (kFinCa K) [] [] [] [1,3,24,25,26] again (frCa nx i) (hCa s (roV nx).length (blV acc) (roV nx))
abbrev l_:=λa b c=>AObj.cells [Vi a,Vd 1 (blV b),Vd 1 (roV c)] 25
abbrev N_{α:Type}(a:T α):T α:=No (No Lf a) Lf
abbrev V':=λa=>HF (Vd 1 (blV a))
theorem LL(K:KV)(s:Int)(acc:Li)(nx:La):jCa K s acc nx=(Sp (decide (300<Kh nx)) (K (Vi 3) (AH.mk (Kd (Ks [Vi (Kh nx)] 3) (l_ s acc nx)) 2)) (Sp (decide (Kh nx=0)) (K (Vi 2) (AH.mk (Kd (Ks [Vi (Kh nx)] 3) (l_ s acc nx)) 2)) (Sp (! decide (j_ (blV acc)=Kh nx)) (K (Vi 2) (AH.mk (Kd (Ks [Vi (Kh nx)] 3) (l_ s acc nx)) 2)) (K9 nx/\V' acc/\K9 nx/\LAtZ XCa 5 f5.ntmps (AH.mk Lf 0) (au f5) [1,1,1,0,1,0] (finK (SX.E XCa) f5.results.toList K) (No (Ns (Sg (c_ 1 0)) h_ (N_ (M' (Kh nx)))) (No (N_ (Sg (W_ nx))) (N_ (M' 0)))) (AH.mk (Kd (Ks [Vi (Kh nx)] 3) (l_ s acc nx)) 2))))):=by kernel_rfl
theorem jCa_nf:type_of%(by have h:=@LL;revert h;delta c_ h_ j_ l_ n_ N_ W_ M' V' Kd Kh Ks K9;exact id):=@LL
abbrev p_:=λa=>List.map deR (roV a)
abbrev Q_:=λa b c d=>AH.mk (Ns a b c) d
theorem LN(K:KV)(again:KF)(s:Int)(acc:Li)(nx:La)(i:Nat):jCaL K again s acc nx i=(Sp (decide ((i:Int)<Kh nx)) ((0<=(i:Int)/\(i:Int)<Kh nx)/\nth (roV nx) i=some (Vd 1 (KA nx i))/\Sp (! decide (j_ (KA nx i)=256)) (K (Vi 2) (AH.mk (Kd (Ks [Vi (Kh nx)] 3) (l_ s acc nx)) 2)) (K9 nx/\V' acc/\K9 nx/\again (No (Ns (Sg (c_ 1 0)) h_ (N_ (M' (Kh nx)))) (No (N_ (Sg (W_ nx))) (N_ (v_ ((i:Int)+1))))) (AH.mk (Kd (Ks [Vi (Kh nx)] 3) (l_ s acc nx)) 2))) (Sp (decide (s<0)) (K (Vi 9) (Q_ (Ks [Vi (Kh nx)] 3) (l_ s acc nx) (Ks [o_ 15 [] [c_ 1 0]] 38) 3)) (Sp (decide (Kh nx<=s)) (K (Vi 9) (Q_ (Ks [Vi (Kh nx)] 3) (l_ s acc nx) (Ks [o_ 15 [] [c_ 1 0]] 38) 3)) (HFs [W_ nx] (PH (Prod.fst (some (IsR (roV nx)),Vi (ixF (outR (Kh nx)) (p_ nx) 0),[n_ [o_ 15 [] [c_ 1 0]] 38,n_ [Vi (Kh nx)] 3])))/\Sp (decide (0<=ixF (outR (Kh nx)) (p_ nx) 0)) (K (Vi 9) (Q_ (Ks [Vi (Kh nx)] 3) (l_ s acc nx) (Ks [o_ 15 [] [c_ 1 0]] 38) 3)) (K (Vi 0) (Q_ (Ks [Vi (Kh nx)] 3) (l_ s acc nx) (Ks [o_ 15 [] [c_ 1 0]] 38) 3)))))):=by kernel_rfl
theorem DY:type_of%(by have h:=@LN;revert h;delta c_ h_ j_ l_ n_ o_ p_ v_ N_ Q_ W_ M' V' Kd Kh Ks KA K9;exact id):=@LN
theorem gt{X:SX}(m:X.Ok){d:Nat}{fn:Func}{args:Lh}{v:Value}(j:HF v)(h:bh X d fn args ⟨.leaf,0⟩ (zk (λa=>a=v) (λa p=>Frz p a v))):Walk X.E fn args v:=by unfold bh at h;split at h;rename_i c k;split at h;rename_i F o;cases e:Nat.ble args.length fn.ntmps;rw[e]at h;exact h.elim;rw[e]at h;refine⟨c,F,k,e,o,(jt m (d:=d) h).mono λr s u q=>?_⟩;obtain⟨g,a,f,b⟩:=ga q;refine⟨g,a,f,?_⟩;rcases zj b with b|b;rw[b];exact .same j;exact b;exact h.elim;exact h.elim
theorem jg{a :Type}{p: a ->Bool}{l:List a}(h:i<l.length):(l.drop i).any p=(p l[i]||(l.drop (i+1)).any p):=by rw[Hj h];rfl
theorem nv{a :Type}{p: a ->Bool}{l:List a}(h:l.length<=i):(l.drop i).any p=false:=by rw[Hy h];rfl
theorem FN{a:AU}(B:WfA a):Walk env f5 [auV a] (.int .i64 (chkA a)):=by
 obtain⟨s,e,b⟩:=a;obtain⟨y,w,v⟩:=B;dsimp only at y w v;refine gt BJ (d:=5) (HFi _ _) ((jCa_nf _ s e b).mpr ?_);rw[aL,bc];unfold chkA;dsimp only;refine Sp.intro (λu=>?_) (λu=>?_);rw[u];rfl;rw[u];refine Sp.intro (λq=>?_) (λq=>?_);rw[q];rfl;rw[q];refine Sp.intro (λp=>?_) (λp=>?_);rw[p];rfl;rw[p];refine⟨.dat (aK _),.dat (aN _),.dat (aK _),?_⟩;simp only[GN,Bool.or_self];refine LAtZ.stepF BJ [] [] [] [1,3,24,25,26] (by kernel_rfl) (λk F A=>∃ i:Nat,F=frCa b i/\A=hCa s (roV b).length (blV e) (roV b)/\i+k=b.length/\b.any (λr=> !decide ((r.length:Int)=256))=(b.drop i).any (λr=> !decide ((r.length:Int)=256))) ?_ (k:=b.length) ⟨0,by unfold frCa;rw[aL];rfl,by unfold hCa;rw[aL];rfl,by omega,by simp⟩;rintro k F A ⟨i,rfl,rfl,C,f⟩;refine(DY _ _ s e b i).mpr ?_;rw[aL];refine Sp.intro (λh=>?_) (λh=>?_);have h:=odt h;have g:i<b.length:=by omega
 rw[jg g]at f;rw[bM g,ah];refine⟨⟨by omega,h⟩,cK g,Sp.intro (λc=>?_) (λc=>?_)⟩;rw[f,c];rfl;refine⟨.dat (aK _),.dat (aN _),.dat (aK _),k-1,by omega,i+1,?_,?_,by omega,?_⟩;rw[aA (x:=(i:Int)+1) (by omega) (by omega)];unfold frCa;rw[aL];rfl;rfl;rw[f,c];rfl;have h:=odf h;rw[nv (by omega)]at f;rw[f,bX];unfold outI;refine Sp.intro (λo=>?_) (λo=>?_);rw[o];rfl;rw[o];refine Sp.intro (λm=>?_) (λm=>?_);rw[m];rfl;rw[m];refine⟨⟨.dat (aK _),isR_ro w v⟩,Sp.intro (λj=>?_) (λj=>?_)⟩;rw[ixF_neg.1 (odt j)];rfl;have:b.any (outR b.length)=false:=by cases z:b.any (outR b.length);rfl;exact absurd (ixF_neg.2 z) (odf j)
 rw[this];rfl
def auD:Value->AU
 | .agg ⟨[.int _ s,.func _ ⟨bs⟩ _,.func _ ⟨rs⟩ _]⟩=>(s,bs.map deB,rs.map deR)
 |_=>(0,[],[])
theorem pa(a:AU):auD (auV a)=a:=by obtain⟨s,b,c⟩:=a;show(s,(blV b).map deB,(roV c).map deR)=_;rw[cx,bX]
def WfV(v:Value):Prop:=v=auV (auD v)/\WfA (auD v)
theorem iy{a:AU}(h:WfA a):WfV (auV a):=⟨by rw[pa],by rw[pa];exact h⟩
def auQ:Value->Option AU
 | .agg ⟨[.int .i64 s,.func (.yield 1) ⟨bs⟩ ⟨[]⟩,.func (.yield 1) ⟨rs⟩ ⟨[]⟩]⟩=>some (s,bs.map deB,rs.map deR)
 |_=>none
theorem ku{v:Value}{a:AU}(h:v=auV (auD v))(b:auQ v=some a):a=auD v:=by
 rw[h]at b;have:auQ (auV (auD v))=some (auD v):=by obtain⟨s,c,d⟩:=auD v;show some (s,(blV c).map deB,(roV d).map deR)=_;rw[cx,bX]
 rw[this]at b;exact(Hf b).symm
def caX:Lh->Lj
 | [v]=>(match auQ v with|some a=>some (.int .i64 (chkA a))|none=>none)
 |_=>none
def caP:Lh->Ll
 | [v]=>some (WfV v)
 |_=>none
theorem sJ:∀ args A p v A',bD caP caX args A=some (p,v,A')->PH p->CallAt env 5 args A v A':=de am ap (fn:=f5) rfl λargs v h c=>by
 unfold caX at h;split at h;· rename_i u;obtain⟨b,e⟩:WfV u:=c;split at h;rotate_left;cases h;rename_i a d;cases h;rw[ku b d];have:=FN e;rw[<-b]at this;exact⟨HF.cons (by rw[b];exact nD _) HF.nil,this⟩
 cases h
def elT(rs bs:Lg):El:=.of λ_ t els i=>bif inL t rs then some (.func (.yield 1) ⟨ae els i⟩ ⟨[]⟩)else bif inL t bs then some (.bool (aG els i))else some (.int .i64 (aa els i))
def hAu(s:Int)(acc nx:Lh):AH:=⟨Nd Lf (some (.cells [.int .i64 s,dat 1 acc,dat 1 nx] 25)) Lf,1⟩
def XCr:SX:=⟨env,[],elT [33,62,72] [],λk=>.autoN [] [] [] (bif Nat.beq k 6 then [1,3]else bif Nat.beq k 13 then [1,4]else [1,4,5])⟩
theorem sP:XCr.Ok:=⟨am,aE,ap,.nil⟩
def frCr1(i:Nat):T Value:=(Nd (Nd (Nd Lf (some (.int .i64 i)) Lf) (some (.pointer (some ⟨0,0,none⟩))) Lf) none Lf)
def zK(i:Nat):T Value:=(Nd (Nd Lf (some (.pointer (some ⟨0,0,none⟩))) Lf) none (Nd (Nd Lf (some (.int .i64 i)) Lf) none Lf))
def E8(i j:Nat):T Value:=(Nd (Nd Lf (some (.pointer (some ⟨0,0,none⟩))) (Nd Lf (some (.int .i64 j)) Lf)) none (Nd (Nd Lf (some (.int .i64 i)) Lf) none Lf))
abbrev fCr:Func:=f6
def kZ(K:KV):KX:=finK XCr.E (fCr.results).toList K
def jCr(K:KV)(s:Int)(acc:Li)(nx:La):Prop:=bh XCr 1 f6 [.agg ⟨[.int .i64 s,dat 1 (blV acc),dat 1 (roV nx)]⟩] ⟨.leaf,0⟩ K
def jCr1(K:KV)(again:KF)(s:Int)(acc:Li)(nx:La)(i:Nat):Prop:=aI XCr 1 (Func.ntmps f6) ⟨.leaf,0⟩ (au f6) [1,1,1,0,1,0] (kZ K) [] [] [] [1,3] again (frCr1 i) (hAu s (blV acc) (roV nx))
def jCr2(K:KV)(again:KF)(s:Int)(acc:Li)(nx:La)(i:Nat):Prop:=aI XCr 1 (Func.ntmps f6) ⟨.leaf,0⟩ (au f6) [1,1,1,1,1,0,1,0] (kZ K) [] [] [] [1,4] again (zK i) (hAu s (blV acc) (roV nx))
def kCr2(K:KV)(again2:KF):KX:=stepF XCr 1 (Func.ntmps f6) ⟨.leaf,0⟩ (au f6) [1,1,1,1,1,0,1,0] (kZ K) [] [] [] [1,4] again2
def jCr3(K:KV)(again2 again:KF)(s:Int)(acc:Li)(nx:La)(i j:Nat):Prop:=aI XCr 1 (Func.ntmps f6) ⟨.leaf,0⟩ (ak (subC [1,1,1,1,1,0,1,0] (au f6))) [1,0,0,1,0] (kCr2 K again2) [] [] [] [1,4,5] again (E8 i j) (hAu s (blV acc) (roV nx))
def XAf:SX:=⟨env,[],elT [17] [],λ_=>.autoN [] [] [] [1,2,5,10,11]⟩
theorem BM:XAf.Ok:=⟨am,aE,ap,.nil⟩
def frAf(s:ByteArray)(q:Int)(i:Nat):T Value:=(Nd (Nd (Nd Lf none (Nd Lf (some (.int .i64 i)) Lf)) (some (.string s)) (Nd Lf (some (.int .i64 q)) Lf)) none (Nd Lf (some (.pointer (some ⟨0,0,none⟩))) (Nd (Nd Lf (some (.int .i64 s.size)) Lf) none Lf)))
def kFinAf(K:KV):KX:=finK XAf.E (f28.results).toList K
def jAf(K:KV)(s:Int)(acc:Li)(nx:La)(t:ByteArray):Prop:=bh XAf 1 f28 [.agg ⟨[.int .i64 s,dat 1 (blV acc),dat 1 (roV nx)]⟩,.string t] ⟨.leaf,0⟩ K
def jAfL(K:KV)(again:KF)(s:Int)(acc:Li)(nx:La)(t:ByteArray)(q:Int)(i:Nat):Prop:=aI XAf 1 (Func.ntmps f28) ⟨.leaf,0⟩ (au f28) [1,1,0,1,0] (kFinAf K) [] [] [] [1,2,5,10,11] again (frAf t q i) (hAu s (blV acc) (roV nx))
def XRu:SX:=⟨env,[],elT [17] [],λ_=>.autoN [] [] [] [1,2,3,7]⟩
theorem By:XRu.Ok:=⟨am,aE,ap,.nil⟩
def frRu(s:ByteArray)(q:Int)(i:Nat):T Value:=(Nd (Nd (Nd (Nd Lf (some (.int .i64 i)) Lf) (some (.pointer (some ⟨0,0,none⟩))) Lf) (some (.int .i64 q)) Lf) none (Nd Lf (some (.string s)) Lf))
def kFinRu(K:KV):KX:=finK XRu.E (f29.results).toList K
def jRu(K:KV)(s:Int)(acc:Li)(nx:La)(q:Int)(t:ByteArray):Prop:=bh XRu 1 f29 [.agg ⟨[.int .i64 s,dat 1 (blV acc),dat 1 (roV nx)]⟩,.int .i64 q,.string t] ⟨.leaf,0⟩ K
def jRuL(K:KV)(again:KF)(s:Int)(acc:Li)(nx:La)(t:ByteArray)(q:Int)(i:Nat):Prop:=aI XRu 1 (Func.ntmps f29) ⟨.leaf,0⟩ (au f29) [1,0,1,0] (kFinRu K) [] [] [] [1,2,3,7] again (frRu t q i) (hAu s (blV acc) (roV nx))
abbrev _root_.Go.GU:=@List.take_succ_eq_append_getElem
abbrev Ke:=λa b c d=>AH.mk (Sg (l_ a b c)) d
theorem LO(K:KV)(s:Int)(acc:Li)(nx:La):jCr K s acc nx=(Sp (decide (300<Kh nx)) (K (Vi 3) (Ke s acc nx 1)) (Sp (decide (Kh nx=0)) (K (Vi 2) (Ke s acc nx 1)) (Sp (! decide (j_ (blV acc)=Kh nx)) (K (Vi 2) (Ke s acc nx 1)) (V' acc/\K9 nx/\LAtZ XCr 1 f6.ntmps (AH.mk Lf 0) (au f6) [1,1,1,0,1,0] (finK (SX.E XCr) f6.results.toList K) (No (Ns (M' 0) h_ Lf) Lf) (Ke s acc nx 1))))):=by kernel_rfl
theorem jCr_nf:type_of%(by have h:=@LO;revert h;delta h_ j_ l_ W_ M' V' Ke Kh K9;exact id):=@LO
theorem LQ(K:KV)(again:KF)(s:Int)(acc:Li)(nx:La)(i:Nat):jCr1 K again s acc nx i=(Sp (decide ((i:Int)<Kh nx)) ((0<=(i:Int)/\(i:Int)<Kh nx)/\nth (roV nx) i=some (Vd 1 (KA nx i))/\Sp (! decide (j_ (KA nx i)=256)) (K (Vi 2) (Ke s acc nx 1)) (V' acc/\K9 nx/\again (No (Ns (v_ ((i:Int)+1)) h_ Lf) Lf) (Ke s acc nx 1))) (Sp (decide (s<0)) (K (Vi 9) (Ke s acc nx 1)) (Sp (decide (Kh nx<=s)) (K (Vi 9) (Ke s acc nx 1)) (V' acc/\K9 nx/\LAtZ XCr 1 f6.ntmps (AH.mk Lf 0) (au f6) [1,1,1,1,1,0,1,0] (kZ K) (No (Sg h_) (F_ (Vi 0))) (Ke s acc nx 1))))):=by kernel_rfl
theorem DW:type_of%(by have h:=@LQ;revert h;delta h_ j_ l_ v_ F_ W_ V' Ke Kh KA K9;exact id):=@LQ
theorem LR(K:KV)(a:KF)(s:Int)(acc:Li)(nx:La)(i:Nat):jCr2 K a s acc nx i=(Sp (decide ((i:Int)<Kh nx)) (V' acc/\K9 nx/\LAtZ XCr 1 f6.ntmps (AH.mk Lf 0) (ak (subC [1,1,1,1,1,0,1,0] (au f6))) [1,0,0,1,0] (stepF XCr 1 f6.ntmps (AH.mk Lf 0) (au f6) [1,1,1,1,1,0,1,0] (kZ K) [] [] [] [1,4] a) (No (Ns Lf h_ (M' 0)) (F_ (Vi i))) (Ke s acc nx 1)) (K (Vi 0) (Ke s acc nx 1))):=by kernel_rfl
theorem DV:type_of%(by have h:=@LR;revert h;delta h_ j_ l_ F_ W_ M' V' Ke Kh K9;exact id):=@LR
theorem LS(K:KV)(again2:KF)(again:KF)(s:Int)(acc:Li)(nx:La)(i j:Nat):jCr3 K again2 again s acc nx i j=(Sp (decide ((j:Int)<256)) ((0<=(i:Int)/\(i:Int)<Kh nx)/\nth (roV nx) i=some (Vd 1 (KA nx i))/\(0<=(j:Int)/\(j:Int)<j_ (KA nx i))/\nth (KA nx i) j=some (Vi (aa (KA nx i) j))/\Sp (decide (aa (KA nx i) (j:Int)<0)) (K (Vi 9) (Ke s acc nx 24)) ((0<=(i:Int)/\(i:Int)<Kh nx)/\nth (roV nx) i=some (Vd 1 (KA nx i))/\(0<=(j:Int)/\(j:Int)<j_ (KA nx i))/\nth (KA nx i) j=some (Vi (aa (KA nx i) j))/\Sp (decide (Kh nx<=aa (KA nx i) j)) (K (Vi 9) (Ke s acc nx 24)) (V' acc/\K9 nx/\again (No (Ns Lf h_ (v_ ((j:Int)+1))) (F_ (Vi i))) (Ke s acc nx 1)))) (V' acc/\K9 nx/\again2 (No (Sg h_) (No (v_ ((i:Int)+1)) Lf)) (Ke s acc nx 1))):=by kernel_rfl
theorem DU:type_of%(by have h:=@LS;revert h;delta h_ j_ l_ v_ F_ W_ V' Ke Kh KA K9;exact id):=@LS
theorem jAf_nf(K:KV)(s:Int)(acc:Li)(nx:La)(t:ByteArray):jAf K s acc nx t=(HF (Vd 1 (blV acc))/\HF (Vd 1 (roV nx))/\LAtZ XAf 1 f28.ntmps (AH.mk Lf 0) (au f28) [1,1,0,1,0] (finK (SX.E XAf) f28.results.toList K) (No (Ns (No Lf (Sg (Vi 0))) (Vs t) (Sg (Vi s))) (Ns Lf (Value.pointer (some ⟨0,0,none⟩)) (No (Sg (Vi (↑(ByteArray.size t):Int))) Lf))) (AH.mk (Sg (AObj.cells [Vi s,Vd 1 (blV acc),Vd 1 (roV nx)] 25)) 1)):=by kernel_rfl
abbrev r_:=λa b=>ae (roV a) (↑(Int.toNat b):Int)
abbrev z_:=λa=>Int.toNat a
abbrev B_:=λ(a:Nat)=>(↑ a:Int)
abbrev Kp:=λa=>B_ (z_ a)
abbrev KI{α:Type}(a:T α):T α:=No Lf a
abbrev KM:=λa=>Vi (B_ a)
abbrev KO:=λa=>B_ (ByteArray.size a)
theorem LT(K:KV)(again:KF)(s:Int)(acc:Li)(nx:La)(t:ByteArray)(q:Int)(i:Nat):jAfL K again s acc nx t q i=(Sp (decide ((i:Int)<KO t)) ((0<=q/\q<Kh nx)/\nth (roV nx) (z_ (Kp q))=some (Vd 1 (r_ nx q))/\(0<=(i:Int)/\(i:Int)<KO t)/\(0<=az t i/\az t (i:Int)<j_ (r_ nx q))/\nth (r_ nx q) (z_ (Kp (az t i)))=some (Vi (aa (r_ nx q) (Kp (az t i))))/\V' acc/\K9 nx/\again (No (Ns (KI (v_ ((i:Int)+1))) (Vs t) (M' (aa (r_ nx q) (Kp (az t i))))) (Ns Lf h_ (F_ (KM (ByteArray.size t))))) (Ke s acc nx 1)) (K (Vi q) (Ke s acc nx 1))):=by kernel_rfl
theorem Ee:type_of%(by have h:=@LT;revert h;delta h_ j_ l_ r_ v_ z_ B_ F_ W_ M' V' Ke Kh Kp KI KM KO K9;exact id):=@LT
theorem jRu_nf(K:KV)(s:Int)(acc:Li)(nx:La)(q:Int)(t:ByteArray):jRu K s acc nx q t=(HF (Vd 1 (blV acc))/\HF (Vd 1 (roV nx))/\LAtZ XRu 1 f29.ntmps (AH.mk Lf 0) (au f29) [1,0,1,0] (finK (SX.E XRu) f29.results.toList K) (No (Ns (Ns (Sg (Vi 0)) (Value.pointer (some ⟨0,0,none⟩)) Lf) (Vi q) Lf) (Sg (Vs t))) (AH.mk (Sg (AObj.cells [Vi s,Vd 1 (blV acc),Vd 1 (roV nx)] 25)) 1)):=by kernel_rfl
theorem LU(K:KV)(again:KF)(s:Int)(acc:Li)(nx:La)(t:ByteArray)(q:Int)(i:Nat):jRuL K again s acc nx t q i=(Sp (decide ((i:Int)<KO t)) ((0<=q/\q<Kh nx)/\nth (roV nx) (z_ (Kp q))=some (Vd 1 (r_ nx q))/\(0<=(i:Int)/\(i:Int)<KO t)/\(0<=az t i/\az t (i:Int)<j_ (r_ nx q))/\nth (r_ nx q) (z_ (Kp (az t i)))=some (Vi (aa (r_ nx q) (Kp (az t i))))/\V' acc/\K9 nx/\again (No (Kd (Ns (v_ ((i:Int)+1)) h_ Lf) (Vi (aa (r_ nx q) (Kp (az t i))))) (Sg (Vs t))) (Ke s acc nx 1)) (K (Vi q) (Ke s acc nx 1))):=by kernel_rfl
theorem Do:type_of%(by have h:=@LU;revert h;delta h_ j_ l_ r_ v_ z_ B_ W_ V' Kd Ke Kh Kp KO K9;exact id):=@LU
theorem zR(K:KV)(again2:KF)(s:Int)(acc:Li)(nx:La)(i:Nat)(d:i<nx.length)(p:nx.length<9223372036854775808)(g:nx[i].length=256)
 (f:outR nx.length nx[i]=true->∀ A,K (.int .i64 9) A) (o:outR nx.length nx[i]=false->again2 (zK (i+1)) (hAu s (blV acc) (roV nx))):
 LAtZ XCr 1 (Func.ntmps f6) ⟨.leaf,0⟩ (ak (subC [1,1,1,1,1,0,1,0] (au f6))) [1,0,0,1,0] (kCr2 K again2) (E8 i 0) (hAu s (blV acc) (roV nx)):=by
 refine LAtZ.stepF sP [] [] [] [1,4,5] (by kernel_rfl) (λk F A=>∃ j:Nat,F=E8 i j/\A=hAu s (blV acc) (roV nx)/\j+k=256/\outR nx.length nx[i]=(nx[i].drop j).any (outI nx.length)) ?_ (k:=256) ⟨0,rfl,rfl,by omega,by simp[outR]⟩;rintro k F A ⟨j,rfl,rfl,m,a⟩;refine(DU _ _ _ s acc nx i j).mpr ?_;rw[bM d,aL,ah];refine Sp.intro (λh=>?_) (λh=>?_);have h:=odt h;have b:j<nx[i].length:=by omega
 rw[jg b]at a;rw[aq b];refine⟨⟨by omega,by omega⟩,cK d,⟨by omega,by omega⟩,aP b,Sp.intro (λc=>?_) (λc=>?_)⟩;exact f (by rw[a];unfold outI;rw[c];rfl) _;refine⟨⟨by omega,by omega⟩,cK d,⟨by omega,by omega⟩,aP b,Sp.intro (λe=>?_) (λe=>?_)⟩;exact f (by rw[a];unfold outI;rw[c,e];rfl) _;refine⟨.dat (aN _),.dat (aK _),k-1,by omega,j+1,?_,rfl,by omega,?_⟩;rw[aA (x:=(j:Int)+1) (by omega) (by omega)];rfl;rw[a];unfold outI;rw[c,e];rfl;have h:=odf h;rw[nv (by omega)]at a;refine⟨.dat (aN _),.dat (aK _),?_⟩;rw[aA (x:=(i:Int)+1) (by omega) (by omega)];exact o a
theorem zS(K:KV)(s:Int)(acc:Li)(nx:La)(e:nx.length<9223372036854775808)(b:∀ r∈nx,r.length=256)
 (g:nx.any (outR nx.length)=true->∀ A,K (.int .i64 9) A) (j:nx.any (outR nx.length)=false->∀ A,K (.int .i64 0) A):
 LAtZ XCr 1 (Func.ntmps f6) ⟨.leaf,0⟩ (au f6) [1,1,1,1,1,0,1,0] (kZ K) (zK 0) (hAu s (blV acc) (roV nx)):=by
 refine LAtZ.stepF sP [] [] [] [1,4] (by kernel_rfl) (λk F A=>∃ i:Nat,F=zK i/\A=hAu s (blV acc) (roV nx)/\i+k=nx.length/\nx.any (outR nx.length)=(nx.drop i).any (outR nx.length)) ?_ (k:=nx.length) ⟨0,rfl,rfl,by omega,by simp⟩;rintro k F A ⟨i,rfl,rfl,f,a⟩;refine(DV _ _ s acc nx i).mpr ?_;rw[aL];refine Sp.intro (λh=>?_) (λh=>?_);have h:=odt h;have d:i<nx.length:=by omega
 rw[jg d]at a;refine⟨.dat (aN _),.dat (aK _),zR K _ s acc nx i d e (b _ (Gy d)) (λc=>g (by rw[a,c];rfl)) λc=>⟨k-1,by omega,i+1,rfl,rfl,by omega,by rw[a,c];rfl⟩⟩;have h:=odf h;rw[nv (by omega)]at a;exact j a _
theorem FG{a:AU}(B:WfA a):Walk env f6 [auV a] (.int .i64 (chkA a)):=by
 obtain⟨s,e,b⟩:=a;obtain⟨z,w,y⟩:=B;dsimp only at z w y;refine gt sP (d:=1) (HFi _ _) ((jCr_nf _ s e b).mpr ?_);rw[aL,bc];unfold chkA;dsimp only;refine Sp.intro (λv=>?_) (λv=>?_);rw[v];rfl;rw[v];refine Sp.intro (λu=>?_) (λu=>?_);rw[u];rfl;rw[u];refine Sp.intro (λq=>?_) (λq=>?_);rw[q];rfl;rw[q];refine⟨.dat (aN _),.dat (aK _),?_⟩;simp only[GN,Bool.or_self];refine LAtZ.stepF sP [] [] [] [1,3] (by kernel_rfl) (λk F A=>∃ i:Nat,F=frCr1 i/\A=hAu s (blV e) (roV b)/\i+k=b.length/\(∀r∈b.take i,r.length=256)/\b.any (λr=> !decide ((r.length:Int)=256))=(b.drop i).any (λr=> !decide ((r.length:Int)=256))) ?_ (k:=b.length) ⟨0,rfl,rfl,by omega,by simp,by simp⟩;rintro k F A ⟨i,rfl,rfl,C,m,g⟩;refine(DW _ _ s e b i).mpr ?_;rw[aL];refine Sp.intro (λh=>?_) (λh=>?_);have h:=odt h;have j:i<b.length:=by omega
 rw[jg j]at g;rw[bM j,ah];refine⟨⟨by omega,h⟩,cK j,Sp.intro (λc=>?_) (λc=>?_)⟩;rw[g,c];rfl;refine⟨.dat (aN _),.dat (aK _),k-1,by omega,i+1,?_,rfl,by omega,?_,?_⟩;rw[aA (x:=(i:Int)+1) (by omega) (by omega)];rfl;intro r f;rw[GU j]at f;rcases GS.1 f with f|f;exact m r f;simp only[GZ]at f;subst f;simp only[IL,GK]at c;omega;rw[g,c];rfl;have h:=odf h;rw[nv (by omega)]at g;rw[IE (by omega)]at m;rw[g];unfold outI;refine Sp.intro (λp=>?_) (λp=>?_);rw[p];rfl;rw[p];refine Sp.intro (λo=>?_) (λo=>?_);rw[o];rfl;rw[o];refine⟨.dat (aN _),.dat (aK _),zS _ s e b w m (λc A=>?_) (λc A=>?_)⟩;rw[c];rfl;rw[c];rfl
theorem Bq:∀ args A p v A',bD caP caX args A=some (p,v,A')->PH p->CallAt env 6 args A v A':=de am ap (fn:=f6) rfl λargs v h c=>by
 unfold caX at h;split at h;· rename_i u;obtain⟨b,e⟩:WfV u:=c;split at h;rotate_left;cases h;rename_i a d;cases h;rw[ku b d];have:=FG e;rw[<-b]at this;exact⟨HF.cons (by rw[b];exact nD _) HF.nil,this⟩
 cases h
structure OkA (a:AU):Prop where
 wf:WfA a
 n0:0<a.2.2.length
 n1:a.2.2.length<=300
 acc:a.2.1.length=a.2.2.length
 row:∀ r∈a.2.2,r.length=256
 st:0<=a.1/\a.1<a.2.2.length
 ent:∀ r∈a.2.2,∀x∈r,0<=x/\x<a.2.2.length
theorem vk{x:Int}(h:outI n x=false):0<=x/\x<n:=by unfold outI at h;simp only[HR,Ig]at h;omega
theorem lq{a:AU}(o:WfA a)(h:chkA a=0):OkA a:=by
 obtain⟨s,k,b⟩:=a;unfold chkA at h;dsimp only at h;cases j:decide (300<(b.length:Int))with
 |true=>rw[j]at h;cases h
 |false=>
 rw[j]at h;cases g:decide ((b.length:Int)=0)|| !decide ((k.length:Int)=b.length)with
 |true=>rw[g]at h;cases h
 |false=>
 rw[g]at h;cases f:b.any (λr=> !decide ((r.length:Int)=256))with
 |true=>rw[f]at h;cases h
 |false=>
 rw[f]at h;cases c:outI b.length s||b.any (outR b.length)with
 |true=>rw[c]at h;cases h
 |false=>simp only[HR,Ig,IL,GK]at j g c;have e:=List.any_eq_false.1 f;refine⟨o,by dsimp only;omega,by dsimp only;omega,by dsimp only;omega,λr d=>?_,vk c.1,λr d x m=>?_⟩;have:=e r d;simp only[Io,Ig,Classical.not_not]at this;omega;have:=List.any_eq_false.1 c.2 r d;unfold outR at this;have p:=List.any_eq_false.1 (Bool.eq_false_iff.2 this) x m;exact vk (Bool.eq_false_iff.2 p)
abbrev _root_.Go.H4:=@Int.eq_ofNat_of_zero_le
theorem gD{a :Type}{l:List a}{d: a}(h:i<l.length):l.getD i d=l[i]:=by rw[List.getD_eq_getElem?_getD,Gq h];rfl
def stp(nx:La)(q:Int)(b:Nat):Int:=(nx.getD q.toNat []).getD b 0
def runI(nx:La)(q:Int)(l:List UInt8):Int:=l.foldl (λq b=>stp nx q b.toNat) q
theorem iz{a:AU}(h:OkA a){q:Int}(m:0<=q)(k:q<a.2.2.length){b:Nat}(j:b<256):0<=stp a.2.2 q b/\stp a.2.2 q b<a.2.2.length:=by
 have f:q.toNat<a.2.2.length:=by omega
 have d:a.2.2[q.toNat]∈a.2.2:=Gy f;have g:=h.row _ d;have c:b<a.2.2[q.toNat].length:=by omega
 have e:stp a.2.2 q b=a.2.2[q.toNat][b]:=by unfold stp;rw[gD f,gD c]
 rw[e];exact h.ent _ d _ (Gy c)
theorem jy{a:AU}(h:OkA a){q:Int}(e:0<=q)(g:q<a.2.2.length){b:Nat}(j:b<256):
 (0<=q/\q<((roV a.2.2).length:Int))/\nth (roV a.2.2) q.toNat=some (dat 1 (ae (roV a.2.2) q))/\((ae (roV a.2.2) q).length=256)/\nth (ae (roV a.2.2) q) b=some (.int .i64 (aa (ae (roV a.2.2) q) (b:Int)))/\aa (ae (roV a.2.2) q) (b:Int)=stp a.2.2 q b:=by
 obtain⟨n,rfl⟩:=H4 e;have d:n<a.2.2.length:=by omega
 have f:=h.row _ (Gy d);have c:b<a.2.2[n].length:=by omega
 rw[aL];rw[bM d,aq c];refine⟨⟨e,g⟩,by rw[Gs];exact cK d,by rw[ah];exact f,aP c,?_⟩;unfold stp;rw[Gs,gD d,gD c]
theorem gN(h:i<t.data.toList.length):az t (i:Int)=(t.data.toList[i].toNat:Int):=by unfold az;rw[Gs,aS,Gq h]
theorem lK(t:ByteArray):t.data.toList.length=t.size:=by simp
theorem Gi{a:AU}(h:OkA a)(t:ByteArray)(C:t.size<9223372036854775808):Walk env f28 [auV a,.string t] (.int .i64 (runI a.2.2 a.1 t.data.toList)):=by
 obtain⟨s,e,b⟩:=a;have j:=h.st;dsimp only at j;have D:=lK t;refine gt BM (d:=1) (HFi _ _) ((jAf_nf _ s e b t).mpr ⟨.dat (aN _),.dat (aK _),?_⟩);refine LAtZ.stepF BM [] [] [] [1,2,5,10,11] (by kernel_rfl) (λk F A=>∃ (i:Nat) (q:Int),F=frAf t q i/\A=hAu s (blV e) (roV b)/\i+k=t.size/\(0<=q/\q<b.length)/\runI b s t.data.toList=runI b q (t.data.toList.drop i)) ?_ (k:=t.size) ⟨0,s,rfl,rfl,by omega,j,by simp⟩;rintro k F A ⟨i,q,rfl,rfl,p,f,g⟩;refine(Ee _ _ s e b t q i).mpr (Sp.intro (λc=>?_) (λc=>?_));have c:=odt c;have m:i<t.data.toList.length:=by omega
 have o:t.data.toList[i].toNat<256:=t.data.toList[i].toNat_lt;have B:(↑q.toNat:Int)=q:=by omega
 have z:(↑(Int.toNat (↑(t.data.toList[i].toNat):Int)):Int)=(t.data.toList[i].toNat:Int):=by omega
 rw[gN m,B,z,Gs];obtain⟨y,w,v,u,r⟩:=jy h f.1 f.2 o;refine⟨y,w,⟨by omega,c⟩,⟨by omega,by rw[v];omega⟩,u,.dat (aN _),.dat (aK _),k-1,by omega,i+1,stp b q t.data.toList[i].toNat,?_,rfl,by omega,iz h f.1 f.2 o,?_⟩;rw[r,aA (x:=(i:Int)+1) (by omega) (by omega)];rfl;rw[g,Hj m];rfl;have c:=odf c;rw[Hy (by omega)]at g;show Value.int .i64 q=_;rw[g];rfl
theorem CG{a:AU}(h:OkA a){b:Int}(p:0<=b/\b<a.2.2.length)(t:ByteArray)(D:t.size<9223372036854775808):Walk env f29 [auV a,.int .i64 b,.string t] (.int .i64 (runI a.2.2 b t.data.toList)):=by
 obtain⟨s,f,e⟩:=a;dsimp only at p;have E:=lK t;refine gt By (d:=1) (HFi _ _) ((jRu_nf _ s f e b t).mpr ⟨.dat (aN _),.dat (aK _),?_⟩);refine LAtZ.stepF By [] [] [] [1,2,3,7] (by kernel_rfl) (λk F A=>∃ (i:Nat) (q:Int),F=frRu t q i/\A=hAu s (blV f) (roV e)/\i+k=t.size/\(0<=q/\q<e.length)/\runI e b t.data.toList=runI e q (t.data.toList.drop i)) ?_ (k:=t.size) ⟨0,b,rfl,rfl,by omega,p,by simp⟩;rintro k F A ⟨i,q,rfl,rfl,r,g,j⟩;refine(Do _ _ s f e t q i).mpr (Sp.intro (λc=>?_) (λc=>?_));have c:=odt c;have m:i<t.data.toList.length:=by omega
 have o:t.data.toList[i].toNat<256:=t.data.toList[i].toNat_lt;have C:(↑q.toNat:Int)=q:=by omega
 have B:(↑(Int.toNat (↑(t.data.toList[i].toNat):Int)):Int)=(t.data.toList[i].toNat:Int):=by omega
 rw[gN m,C,B,Gs];obtain⟨z,y,w,v,u⟩:=jy h g.1 g.2 o;refine⟨z,y,⟨by omega,c⟩,⟨by omega,by rw[w];omega⟩,v,.dat (aN _),.dat (aK _),k-1,by omega,i+1,stp e q t.data.toList[i].toNat,?_,rfl,by omega,iz h g.1 g.2 o,?_⟩;rw[u,aA (x:=(i:Int)+1) (by omega) (by omega)];rfl;rw[j,Hj m];rfl;have c:=odf c;rw[Hy (by omega)]at j;show Value.int .i64 q=_;rw[j];rfl
def okV(v:Value):Prop:=v=auV (auD v)/\OkA (auD v)
theorem rg{a:AU}(h:OkA a):okV (auV a):=⟨by rw[pa],by rw[pa];exact h⟩
def afX:Lh->Lj
 | [v,.string t]=>(match auQ v with|some a=>some (.int .i64 (runI a.2.2 a.1 t.data.toList))|none=>none)
 |_=>none
def afP:Lh->Ll
 | [v,.string t]=>some (okV v/\t.size<9223372036854775808)
 |_=>none
theorem xR:∀ args A p v A',bD afP afX args A=some (p,v,A')->PH p->CallAt env 28 args A v A':=de am ap (fn:=f28) rfl λargs v h c=>by
 unfold afX at h;split at h;· rename_i u t;obtain⟨⟨b,f⟩,e⟩:okV u/\t.size<9223372036854775808:=c;split at h;rotate_left;cases h;rename_i a d;cases h;rw[ku b d];have:=Gi f t e;rw[<-b]at this;exact⟨HF.cons (by rw[b];exact nD _) (HF.cons (.scal rfl) HF.nil),this⟩
 cases h
def ruX:Lh->Lj
 | [v,.int .i64 q,.string t]=>(match auQ v with|some a=>some (.int .i64 (runI a.2.2 q t.data.toList))|none=>none)
 |_=>none
def ruP:Lh->Ll
 | [v,.int .i64 q,.string t]=>some (okV v/\(0<=q/\q<(auD v).2.2.length)/\t.size<9223372036854775808)
 |_=>none
theorem ru_tab:∀ args A p v A',bD ruP ruX args A=some (p,v,A')->PH p->CallAt env 29 args A v A':=de am ap (fn:=f29) rfl λargs v h c=>by
 unfold ruX at h;split at h;· rename_i u q t;obtain⟨⟨b,g⟩,f,e⟩:okV u/\(0<=q/\q<(auD u).2.2.length)/\t.size<9223372036854775808:=c;split at h;rotate_left;cases h;rename_i a d;cases h;rw[ku b d];have:=CG g f t e;rw[<-b]at this;exact⟨HF.cons (by rw[b];exact nD _) (HF.cons (HFi _ _) (HF.cons (.scal rfl) HF.nil)),this⟩
 cases h
def elB:El:=.of λ_ _ els i=>some (.bool (aG els i))
def XAc:SX:=⟨env,[(5,bD caP caX),(28,bD afP afX)],elB,λ_=>.unroll 0⟩
theorem XAc_ok:XAc.Ok:=⟨am,aE,ap,.cons sJ (.cons xR .nil)⟩
def jAc(K:KV)(s:Int)(acc:Li)(nx:La)(t:ByteArray):Prop:=bh XAc 1 f27 [.agg ⟨[.int .i64 s,dat 1 (blV acc),dat 1 (roV nx)]⟩,.string t] ⟨.leaf,0⟩ K
abbrev _root_.Go.H8:=@decide_eq_false
abbrev f_:=λa=>Value.agg (Array.mk a)
abbrev u_:=λa=>List.map deB (blV a)
abbrev O':=λa=>Vd 1 (blV a)
abbrev Ki:=λa=>Value.tuple (Array.mk a)
abbrev Kw:=Value.bool false
abbrev KN:=λa b=>Value.bool (aG a b)
theorem LW(K:KV)(s:Int)(acc:Li)(nx:La)(t:ByteArray):jAc K s acc nx t=(WfV (f_ [Vi s,O' acc,W_ nx])/\Sp (! decide (chkA (s,u_ acc,p_ nx)=0)) (K (Ki [Kw,Vi (chkA (s,u_ acc,p_ nx))]) (Ke s acc nx 1)) ((okV (f_ [Vi s,O' acc,W_ nx])/\ByteArray.size t<9223372036854775808)/\Vd 1 (blV acc)=Vd 1 (blV acc)/\(0<=runI (p_ nx) s t.data.toList/\runI (p_ nx) s t.data.toList<j_ (blV acc))/\nth (blV acc) (z_ (Kp (runI (p_ nx) s t.data.toList)))=some (KN (blV acc) (Kp (runI (p_ nx) s t.data.toList)))/\K (Ki [KN (blV acc) (Kp (runI (p_ nx) s t.data.toList)),Vi 0]) (Ke s acc nx 10))):=by kernel_rfl
theorem jAc_nf:type_of%(by have h:=@LW;revert h;delta f_ j_ l_ p_ u_ z_ B_ W_ O' Ke Ki Kp Kw KN;exact id):=@LW
def accI(a:AU)(t:ByteArray):Bool×Int:=bif decide (chkA a=0)then(a.2.1.getD (runI a.2.2 a.1 t.data.toList).toNat false,0)else(false,chkA a)
theorem pt{a:AU}(h:OkA a):∀ (l:List UInt8) (q:Int),0<=q/\q<a.2.2.length->0<=runI a.2.2 q l/\runI a.2.2 q l<a.2.2.length
 | [],q,hq=>hq
 |b::l,q,hq=>pt h l _ (iz h hq.1 hq.2 b.toNat_lt)
def acV(r:Bool×Int):Value:=.tuple ⟨[.bool r.1,.int .i64 r.2]⟩
theorem HF_ac(r:Bool×Int):HF (acV r):=.tuple (HF.cons (HFb _) (HF.cons (HFi _ _) HF.nil))
theorem Gl{a:AU}(h:WfA a)(t:ByteArray)(m:t.size<9223372036854775808):Walk env f27 [auV a,.string t] (acV (accI a t)):=by
 obtain⟨s,b,e⟩:=a;refine gt XAc_ok (d:=1) (HF_ac _) ((jAc_nf _ s b e t).mpr ?_);rw[cx,bX,bc];refine⟨iy (a:=(s,b,e)) h,Sp.intro (λc=>?_) (λc=>?_)⟩;have c:¬ chkA (s,b,e)=0:=by simpa using c
 show acV (false,_)=_;unfold accI;rw[H8 c];rfl;have c:chkA (s,b,e)=0:=by simpa using c
 have f:=lq h c;have j:=pt f t.data.toList s f.st;dsimp only at j;have o:=f.acc;dsimp only at o;have k:(↑(runI e s t.data.toList).toNat:Int)=runI e s t.data.toList:=by omega
 have g:(runI e s t.data.toList).toNat<b.length:=by omega
 have p:aG (blV b) (runI e s t.data.toList)=b[(runI e s t.data.toList).toNat]:=by have:=bv g;rw[k]at this;exact this
 rw[k,p];refine⟨⟨rg f,m⟩,rfl,⟨j.1,by omega⟩,di g,?_⟩;show acV (_,0)=_;unfold accI;rw[decide_eq_true c];show _=acV (b.getD _ false,0);rw[gD g]
def acP:Lh->Ll
 | [v,.string t]=>some (WfV v/\t.size<9223372036854775808)
 |_=>none
def u8v(l:List UInt8):Lh:=l.map λb=>.int .u8 b.toNat
def elCo:El:={elT [18] []with app:=true,gm:=λ_=>true}
def XCo:SX:=⟨env,[],elCo,λ_=>.autoN [] [] [] [1,5,14,15,16]⟩
theorem BH:XCo.Ok:=⟨am,aE,ap,.nil⟩
def hCo(l:List UInt8):AH:=⟨Nd Lf (some (.gro (u8v l) [] 5)) Lf,1⟩
def frCo(c:Int)(nx:La)(l:List UInt8)(i:Nat):T Value:=(Nd (Nd (Nd (Nd (Nd Lf (some (.int .i64 (roV nx).length)) Lf) none Lf) none Lf) (some (.int .i64 c)) (Nd Lf (some (.slice (some ⟨0,0,none⟩) l.length (unk+3+1))) Lf)) none (Nd (Nd (Nd (Nd Lf (some (.int .i64 i)) Lf) none Lf) none Lf) none (Nd Lf none (Nd Lf (some (dat 1 (roV nx))) Lf))))
def kFinCo(K:KV):KX:=finK XCo.E (f37.results).toList K
def jCo(K:KV)(s:Int)(acc:Li)(nx:La)(c:Int):Prop:=bh XCo 1 f37 [.agg ⟨[.int .i64 s,dat 1 (blV acc),dat 1 (roV nx)]⟩,.int .i64 c] ⟨.leaf,0⟩ K
def jCoL(K:KV)(again:KF)(nx:La)(c:Int)(l:List UInt8)(i:Nat):Prop:=aI XCo 1 (Func.ntmps f37) ⟨.leaf,0⟩ (au f37) [1,1,0,1,0] (kFinCo K) [] [] [] [1,5,14,15,16] again (frCo c nx l i) (hCo l)
def XFi:SX:=⟨env,[(5,bD caP caX)],elT [45] [35],λk=>.autoN [] [] [] (bif Nat.beq k 7 then [1,2,23,24]else [1,2,9,10,11,12,23,24])⟩
theorem xV:XFi.Ok:=⟨am,aE,ap,.cons sJ .nil⟩
def E3(t:ByteArray)(n:Int)(f:Nat):T Value:=(Nd (Nd (Nd (Nd Lf none (Nd Lf (some (.int .i64 n)) Lf)) none Lf) (some (.string t)) Lf) none (Nd (Nd (Nd Lf none (Nd Lf (some (.int .i64 f)) Lf)) none Lf) (some (.pointer (some ⟨0,0,none⟩))) Lf))
def E2(t:ByteArray)(n:Int)(f:Nat)(q l:Int)(i:Nat):T Value:=(Nd (Nd (Nd (Nd Lf none (Nd Lf (some (.int .i64 n)) Lf)) none (Nd Lf (some (.int .i64 l)) Lf)) (some (.string t)) (Nd (Nd Lf (some (.int .i64 f)) Lf) none Lf)) none (Nd (Nd (Nd Lf none (Nd Lf (some (.int .i64 f)) Lf)) none (Nd Lf (some (.int .i64 i)) Lf)) (some (.pointer (some ⟨0,0,none⟩))) (Nd (Nd Lf (some (.int .i64 q)) Lf) none Lf)))
def vW(K:KV):KX:=finK XFi.E (f13.results).toList K
def jFi(K:KV)(s:Int)(acc:Li)(nx:La)(t:ByteArray):Prop:=bh XFi 1 f13 [.agg ⟨[.int .i64 s,dat 1 (blV acc),dat 1 (roV nx)]⟩,.string t] ⟨.leaf,0⟩ K
def jFi1(K:KV)(again:KF)(s:Int)(acc:Li)(nx:La)(t:ByteArray)(n:Int)(f:Nat):Prop:=aI XFi 1 (Func.ntmps f13) ⟨.leaf,0⟩ (au f13) [1,1,1,0,1,0] (vW K) [] [] [] [1,2,23,24] again (E3 t n f) (hAu s (blV acc) (roV nx))
def kFi(K:KV)(again:KF):KX:=stepF XFi 1 (Func.ntmps f13) ⟨.leaf,0⟩ (au f13) [1,1,1,0,1,0] (vW K) [] [] [] [1,2,23,24] again
def jFi2(K:KV)(again2 again:KF)(s:Int)(acc:Li)(nx:La)(t:ByteArray)(n:Int)(f:Nat)(q l:Int)(i:Nat):Prop:=aI XFi 1 (Func.ntmps f13) ⟨.leaf,0⟩ (ak (subC [1,1,1,0,1,0] (au f13))) [1,1,0,0,1,1,0,1,0] (kFi K again2) [] [] [] [1,2,9,10,11,12,23,24] again (E2 t n f q l i) (hAu s (blV acc) (roV nx))
def XFd:SX:=⟨env,[(6,bD caP caX)],elT [45] [35],λk=>.autoN [] [] [] (bif Nat.beq k 7 then [1,2,9]else [1,2,9,10,11,12])⟩
theorem xW:XFd.Ok:=⟨am,aE,ap,.cons Bq .nil⟩
def E5(t:ByteArray)(n:Int)(f:Nat):T Value:=(Nd (Nd Lf (some (.string t)) (Nd (Nd Lf (some (.int .i64 f)) Lf) none Lf)) none (Nd Lf (some (.pointer (some ⟨0,0,none⟩))) Lf))
def E4(t:ByteArray)(n:Int)(f:Nat)(q l:Int)(i:Nat):T Value:=(Nd (Nd (Nd Lf none (Nd Lf (some (.int .i64 l)) Lf)) (some (.string t)) (Nd (Nd Lf (some (.int .i64 f)) Lf) none Lf)) none (Nd (Nd Lf none (Nd Lf (some (.int .i64 i)) Lf)) (some (.pointer (some ⟨0,0,none⟩))) (Nd (Nd Lf (some (.int .i64 q)) Lf) none Lf)))
def vX(K:KV):KX:=finK XFd.E (f14.results).toList K
def jFd(K:KV)(s:Int)(acc:Li)(nx:La)(t:ByteArray):Prop:=bh XFd 1 f14 [.agg ⟨[.int .i64 s,dat 1 (blV acc),dat 1 (roV nx)]⟩,.string t] ⟨.leaf,0⟩ K
def jFd1(K:KV)(again:KF)(s:Int)(acc:Li)(nx:La)(t:ByteArray)(n:Int)(f:Nat):Prop:=aI XFd 1 (Func.ntmps f14) ⟨.leaf,0⟩ (au f14) [1,1,1,0,1,0] (vX K) [] [] [] [1,2,9] again (E5 t n f) (hAu s (blV acc) (roV nx))
def kFd(K:KV)(again:KF):KX:=stepF XFd 1 (Func.ntmps f14) ⟨.leaf,0⟩ (au f14) [1,1,1,0,1,0] (vX K) [] [] [] [1,2,9] again
def jFd2(K:KV)(again2 again:KF)(s:Int)(acc:Li)(nx:La)(t:ByteArray)(n:Int)(f:Nat)(q l:Int)(i:Nat):Prop:=aI XFd 1 (Func.ntmps f14) ⟨.leaf,0⟩ (ak (subC [1,1,1,0,1,0] (au f14))) [1,0,0,1,0,1,0] (kFd K again2) [] [] [] [1,2,9,10,11,12] again (E4 t n f q l i) (hAu s (blV acc) (roV nx))
theorem LX(K:KV)(s:Int)(acc:Li)(nx:La)(t:ByteArray):jFi K s acc nx t=(WfV (f_ [Vi s,O' acc,W_ nx])/\Sp (! decide (chkA (s,u_ acc,p_ nx)=0)) (K (Ki [Vi 0,Vi 0,Kw,Vi (chkA (s,u_ acc,p_ nx))]) (Ke s acc nx 1)) (Sp (decide (1000<KO t)) (K (Ki [Vi 0,Vi 0,Kw,Vi 3]) (Ke s acc nx 1)) (V' acc/\K9 nx/\LAtZ XFi 1 f13.ntmps (AH.mk Lf 0) (au f13) [1,1,1,0,1,0] (finK (SX.E XFi) f13.results.toList K) (No (Kd (N_ (v_ (KO t+1))) (Vs t)) (Ns (N_ (M' 0)) h_ Lf)) (Ke s acc nx 1)))):=by kernel_rfl
theorem jFi_nf:type_of%(by have h:=@LX;revert h;delta f_ h_ l_ p_ u_ v_ B_ N_ W_ M' O' V' Kd Ke Ki Kw KO K9;exact id):=@LX
theorem LY(K:KV)(again:KF)(s:Int)(acc:Li)(nx:La)(t:ByteArray)(n:Int)(f:Nat):jFi1 K again s acc nx t n f=(Sp (decide ((f:Int)<n)) (V' acc/\K9 nx/\LAtZ XFi 1 f13.ntmps (AH.mk Lf 0) (ak (subC [1,1,1,0,1,0] (au f13))) [1,1,0,0,1,1,0,1,0] (stepF XFi 1 f13.ntmps (AH.mk Lf 0) (au f13) [1,1,1,0,1,0] (vW K) [] [] [] [1,2,23,24] again) (No (Ns (No (KI (M' n)) (M' (-1:Int))) (Vs t) (F_ (Vi f))) (Ns (No (KI (M' f)) (M' f)) h_ (F_ (Vi s)))) (Ke s acc nx 1)) (K (Ki [Vi 0,Vi 0,Kw,Vi 0]) (Ke s acc nx 1))):=by kernel_rfl
theorem DJ:type_of%(by have h:=@LY;revert h;delta h_ l_ F_ W_ M' V' Ke Ki Kw KI K9;exact id):=@LY
abbrev Km:=Value.bool true
theorem LZ(K:KV)(again2:KF)(again:KF)(s:Int)(acc:Li)(nx:La)(t:ByteArray)(n:Int)(f:Nat)(q l:Int)(i:Nat):jFi2 K again2 again s acc nx t n f q l i=((0<=q/\q<j_ (blV acc))/\nth (blV acc) (z_ (Kp q))=some (KN (blV acc) (Kp q))/\Sp (aG (blV acc) (Kp q)) (Sp (decide ((i:Int)=KO t)) (K (Ki [Vi f,Vi i,Km,Vi 0]) (Ke s acc nx 1)) ((0<=q/\q<Kh nx)/\nth (roV nx) (z_ (Kp q))=some (Vd 1 (r_ nx q))/\(0<=(i:Int)/\(i:Int)<KO t)/\(0<=az t i/\az t (i:Int)<j_ (r_ nx q))/\nth (r_ nx q) (z_ (Kp (az t i)))=some (Vi (aa (r_ nx q) (Kp (az t i))))/\V' acc/\K9 nx/\again (No (Ns (No (KI (M' n)) (M' i)) (Vs t) (F_ (Vi f))) (Ns (No (KI (M' f)) (v_ ((i:Int)+1))) h_ (F_ (Vi (aa (r_ nx q) (Kp (az t i))))))) (Ke s acc nx 1))) (Sp (decide ((i:Int)=KO t)) (Sp (decide (0<=l)) (K (Ki [Vi f,Vi l,Km,Vi 0]) (Ke s acc nx 1)) (V' acc/\K9 nx/\again2 (No (Kd (N_ (M' n)) (Vs t)) (Ns (N_ (v_ ((f:Int)+1))) h_ Lf)) (Ke s acc nx 1))) ((0<=q/\q<Kh nx)/\nth (roV nx) (z_ (Kp q))=some (Vd 1 (r_ nx q))/\(0<=(i:Int)/\(i:Int)<KO t)/\(0<=az t i/\az t (i:Int)<j_ (r_ nx q))/\nth (r_ nx q) (z_ (Kp (az t i)))=some (Vi (aa (r_ nx q) (Kp (az t i))))/\V' acc/\K9 nx/\again (No (Ns (No (KI (M' n)) (M' l)) (Vs t) (F_ (Vi f))) (Ns (No (KI (M' f)) (v_ ((i:Int)+1))) h_ (F_ (Vi (aa (r_ nx q) (Kp (az t i))))))) (Ke s acc nx 1)))):=by kernel_rfl
theorem DH:type_of%(by have h:=@LZ;revert h;delta h_ j_ l_ r_ v_ z_ B_ F_ N_ W_ M' V' Kd Ke Kh Ki Km Kp KI KN KO K9;exact id):=@LZ
theorem L0(K:KV)(s:Int)(acc:Li)(nx:La)(t:ByteArray):jFd K s acc nx t=(WfV (f_ [Vi s,O' acc,W_ nx])/\Sp (! decide (chkA (s,u_ acc,p_ nx)=0)) (K (Ki [Vi 0,Vi 0,Kw,Vi (chkA (s,u_ acc,p_ nx))]) (Ke s acc nx 1)) (Sp (decide (1000<KO t)) (K (Ki [Vi 0,Vi 0,Kw,Vi 3]) (Ke s acc nx 1)) (V' acc/\K9 nx/\LAtZ XFd 1 f14.ntmps (AH.mk Lf 0) (au f14) [1,1,1,0,1,0] (finK (SX.E XFd) f14.results.toList K) (No (Ns Lf (Vs t) (F_ (Vi 0))) (Sg h_)) (Ke s acc nx 1)))):=by kernel_rfl
theorem jFd_nf:type_of%(by have h:=@L0;revert h;delta f_ h_ l_ p_ u_ B_ F_ W_ O' V' Ke Ki Kw KO K9;exact id):=@L0
theorem L1(K:KV)(again:KF)(s:Int)(acc:Li)(nx:La)(t:ByteArray)(n:Int)(f:Nat):jFd1 K again s acc nx t n f=(Sp (decide ((f:Int)<=KO t)) (V' acc/\K9 nx/\LAtZ XFd 1 f14.ntmps (AH.mk Lf 0) (ak (subC [1,1,1,0,1,0] (au f14))) [1,0,0,1,0,1,0] (stepF XFd 1 f14.ntmps (AH.mk Lf 0) (au f14) [1,1,1,0,1,0] (vX K) [] [] [] [1,2,9] again) (No (Ns (KI (M' (-1:Int))) (Vs t) (F_ (Vi f))) (Ns (KI (M' f)) h_ (F_ (Vi s)))) (Ke s acc nx 1)) (K (Ki [Vi 0,Vi 0,Kw,Vi 0]) (Ke s acc nx 1))):=by kernel_rfl
theorem DL:type_of%(by have h:=@L1;revert h;delta h_ l_ B_ F_ W_ M' V' Ke Ki Kw KI KO K9;exact id):=@L1
theorem L2(K:KV)(again2:KF)(again:KF)(s:Int)(acc:Li)(nx:La)(t:ByteArray)(n:Int)(f:Nat)(q l:Int)(i:Nat):jFd2 K again2 again s acc nx t n f q l i=((0<=q/\q<j_ (blV acc))/\nth (blV acc) (z_ (Kp q))=some (KN (blV acc) (Kp q))/\Sp (aG (blV acc) (Kp q)) (Sp (decide ((i:Int)=KO t)) (K (Ki [Vi f,Vi i,Km,Vi 0]) (Ke s acc nx 1)) ((0<=q/\q<Kh nx)/\nth (roV nx) (z_ (Kp q))=some (Vd 1 (r_ nx q))/\(0<=(i:Int)/\(i:Int)<KO t)/\(0<=az t i/\az t (i:Int)<j_ (r_ nx q))/\nth (r_ nx q) (z_ (Kp (az t i)))=some (Vi (aa (r_ nx q) (Kp (az t i))))/\V' acc/\K9 nx/\again (No (Ns (KI (M' i)) (Vs t) (F_ (Vi f))) (Ns (KI (v_ ((i:Int)+1))) h_ (F_ (Vi (aa (r_ nx q) (Kp (az t i))))))) (Ke s acc nx 1))) (Sp (decide ((i:Int)=KO t)) (Sp (decide (0<=l)) (K (Ki [Vi f,Vi l,Km,Vi 0]) (Ke s acc nx 1)) (V' acc/\K9 nx/\again2 (No (Ns Lf (Vs t) (No (v_ ((f:Int)+1)) Lf)) (Sg h_)) (Ke s acc nx 1))) ((0<=q/\q<Kh nx)/\nth (roV nx) (z_ (Kp q))=some (Vd 1 (r_ nx q))/\(0<=(i:Int)/\(i:Int)<KO t)/\(0<=az t i/\az t (i:Int)<j_ (r_ nx q))/\nth (r_ nx q) (z_ (Kp (az t i)))=some (Vi (aa (r_ nx q) (Kp (az t i))))/\V' acc/\K9 nx/\again (No (Ns (KI (M' l)) (Vs t) (F_ (Vi f))) (Ns (KI (v_ ((i:Int)+1))) h_ (F_ (Vi (aa (r_ nx q) (Kp (az t i))))))) (Ke s acc nx 1)))):=by kernel_rfl
theorem DK:type_of%(by have h:=@L2;revert h;delta h_ j_ l_ r_ v_ z_ B_ F_ W_ M' V' Ke Kh Ki Km Kp KI KN KO K9;exact id):=@L2
def lsF(nx:La)(acc:Li):Int->Int->Nat->List UInt8->Int
 |q,l,i,[]=>bif acc.getD q.toNat false then(i:Int)else l
 |q,l,i,b::t=>lsF nx acc (stp nx q b.toNat) (bif acc.getD q.toNat false then(i:Int)else l) (i+1) t
def fdN(nx:La)(acc:Li)(s:Int)(t:List UInt8):Nat->Nat->Int×Int×Bool
 |0,_=>(0,0,false)
 |k+1,f=>bif decide (0<=lsF nx acc s (-1) f (t.drop f))then((f:Int),lsF nx acc s (-1) f (t.drop f),true)else fdN nx acc s t k (f+1)
abbrev FI:=(Int×Int×Bool)×Int
def fiI(a:AU)(t:ByteArray):FI:=bif decide (chkA a=0)then(bif decide (t.size<=1000)then(fdN a.2.2 a.2.1 a.1 t.data.toList (t.size+1) 0,0)else((0,0,false),3))else((0,0,false),chkA a)
def fiV(r:FI):Value:=.tuple ⟨[.int .i64 r.1.1,.int .i64 r.1.2.1,.bool r.1.2.2,.int .i64 r.2]⟩
theorem HF_fi(r:FI):HF (fiV r):=.tuple (HF.cons (HFi _ _) (HF.cons (HFi _ _) (HF.cons (HFb _) (HF.cons (HFi _ _) HF.nil))))
theorem fi_in(K:KV)(again2:KF){s:Int}{acc:Li}{nx:La}(h:OkA (s,acc,nx))(I:t.size<=1000){f:Nat}(L:f<=t.size)
 (p:∀ l,lsF nx acc s (-1) f (t.data.toList.drop f)=l->0<=l->∀ A,K (fiV ((f,l,true),0)) A) (w:∀ l,lsF nx acc s (-1) f (t.data.toList.drop f)=l->¬ 0<=l->again2 (E3 t n (f+1)) (hAu s (blV acc) (roV nx))):
 LAtZ XFi 1 (Func.ntmps f13) ⟨.leaf,0⟩ (ak (subC [1,1,1,0,1,0] (au f13))) [1,1,0,0,1,1,0,1,0] (kFi K again2) (E2 t n f s (-1) f) (hAu s (blV acc) (roV nx)):=by
 have j:=h.st;have v:=h.acc;have J:=lK t;dsimp only at j v;refine LAtZ.stepF xV [] [] [] [1,2,9,10,11,12,23,24] (by kernel_rfl) (λk F A=>∃ (i:Nat) (q l:Int),F=E2 t n f q l i/\A=hAu s (blV acc) (roV nx)/\i+k=t.size/\(0<=q/\q<nx.length)/\lsF nx acc s (-1) f (t.data.toList.drop f)=lsF nx acc q l i (t.data.toList.drop i)) ?_ (k:=t.size-f) ⟨f,s, -1,rfl,rfl,by omega,j,rfl⟩;rintro k F A ⟨i,q,l,rfl,rfl,u,e,g⟩;have b:q.toNat<acc.length:=by omega
 have r:(↑q.toNat:Int)=q:=by omega
 have H:aG (blV acc) q=acc[q.toNat]:=by have:=bv b;rw[r]at this;exact this
 refine(DH _ _ _ s acc nx t n f q l i).mpr ?_;have a:i=t.size->lsF nx acc s (-1) f (t.data.toList.drop f)=bif acc[q.toNat]then(i:Int)else l:=λd=>by rw[g,Hy (by omega)];show(bif acc.getD q.toNat false then _ else _)=_;rw[gD b]
 rw[r,H,bc];refine⟨⟨e.1,by omega⟩,di b,?_⟩;refine Sp.intro (λc=>Sp.intro (λd=>?_) (λd=>?_)) (λc=>Sp.intro (λd=>?_) (λd=>?_));have d:=odt d;have a:=a (by omega);rw[c]at a;exact p _ a (by simp) _;rotate_left;have d:=odt d;have a:=a (by omega);rw[c]at a;refine Sp.intro (λz=>p _ a (odt z) _) (λz=>⟨.dat (aN _),.dat (aK _),?_⟩);rw[aA (x:=(f:Int)+1) (by omega) (by omega)];exact w _ a (odf z);all_goals
  have d:=odf d;have m:i<t.data.toList.length:=by omega
  have o:t.data.toList[i].toNat<256:=t.data.toList[i].toNat_lt;have G:(↑(Int.toNat (↑(t.data.toList[i].toNat):Int)):Int)=(t.data.toList[i].toNat:Int):=by omega
  rw[gN m,G,Gs];obtain⟨E,D,C,B,y⟩:=jy h e.1 e.2 o;refine⟨E,D,⟨by omega,by omega⟩,⟨by omega,by rw[C];omega⟩,B,.dat (aN _),.dat (aK _),k-1,by omega,i+1,stp nx q t.data.toList[i].toNat,bif acc[q.toNat]then(i:Int)else l,?_,rfl,by omega,iz h e.1 e.2 o,?_⟩;rw[y,aA (x:=(i:Int)+1) (by omega) (by omega),c];rfl;rw[g,Hj m];show lsF nx acc _ (bif acc.getD q.toNat false then _ else _) _ _=_;rw[gD b]
theorem Fc{a:AU}(j:WfA a)(t:ByteArray)(u:t.size<9223372036854775808):Walk env f13 [auV a,.string t] (fiV (fiI a t)):=by
 obtain⟨s,b,h⟩:=a;refine gt xV (d:=1) (HF_fi _) ((jFi_nf _ s b h t).mpr ?_);rw[cx,bX];refine⟨iy (a:=(s,b,h)) j,Sp.intro (λc=>?_) (λc=>?_)⟩;have c:¬ chkA (s,b,h)=0:=by simpa using c
 show fiV ((0,0,false),_)=_;unfold fiI;rw[H8 c];rfl;have c:chkA (s,b,h)=0:=by simpa using c
 have o:=lq j c;refine Sp.intro (λd=>?_) (λd=>⟨.dat (aN _),.dat (aK _),?_⟩);have d:=odt d;show fiV ((0,0,false),3)=_;unfold fiI;rw[decide_eq_true c,H8 (by omega)];rfl;have d:=odf d;have e:fiI (s,b,h) t=(fdN h b s t.data.toList (t.size+1) 0,0):=by unfold fiI;rw[decide_eq_true c,decide_eq_true (by omega)];rfl
 rw[e,aA (x:=(t.size:Int)+1) (by omega) (by omega)];refine LAtZ.stepF xV [] [] [] [1,2,23,24] (by kernel_rfl) (λk F A=>∃ f:Nat,F=E3 t ((t.size:Int)+1) f/\A=hAu s (blV b) (roV h)/\f+k=t.size+1/\fdN h b s t.data.toList (t.size+1) 0=fdN h b s t.data.toList k f) ?_ (k:=t.size+1) ⟨0,rfl,rfl,by omega,rfl⟩;rintro k F A ⟨f,rfl,rfl,r,q⟩;rw[q];refine(DJ _ _ s b h t ((t.size:Int)+1) f).mpr (Sp.intro (λg=>?_) (λg=>?_));have g:=odt g;obtain⟨m,rfl⟩:∃ m,k=m+1:=⟨k-1,by omega⟩;refine⟨.dat (aN _),.dat (aK _),fi_in _ _ o (by omega) (n:=((t.size:Int)+1)) (by omega) (λl e p A=>?_) λl e p=>⟨m,by omega,f+1,rfl,rfl,by omega,?_⟩⟩;show fiV ((f,l,true),0)=fiV (fdN h b s t.data.toList (m+1) f,0);unfold fdN;rw[e,decide_eq_true p];rfl;show fdN h b s t.data.toList (m+1) f=_;rw[fdN,e,H8 p];rfl;have g:=odf g;obtain rfl:k=0:=by omega
 rfl
theorem fd_in(K:KV)(again2:KF){s:Int}{acc:Li}{nx:La}(h:OkA (s,acc,nx))(I:t.size<=1000){f:Nat}(L:f<=t.size)
 (p:∀ l,lsF nx acc s (-1) f (t.data.toList.drop f)=l->0<=l->∀ A,K (fiV ((f,l,true),0)) A) (w:∀ l,lsF nx acc s (-1) f (t.data.toList.drop f)=l->¬ 0<=l->again2 (E5 t n (f+1)) (hAu s (blV acc) (roV nx))):
 LAtZ XFd 1 (Func.ntmps f14) ⟨.leaf,0⟩ (ak (subC [1,1,1,0,1,0] (au f14))) [1,0,0,1,0,1,0] (kFd K again2) (E4 t n f s (-1) f) (hAu s (blV acc) (roV nx)):=by
 have j:=h.st;have v:=h.acc;have J:=lK t;dsimp only at j v;refine LAtZ.stepF xW [] [] [] [1,2,9,10,11,12] (by kernel_rfl) (λk F A=>∃ (i:Nat) (q l:Int),F=E4 t n f q l i/\A=hAu s (blV acc) (roV nx)/\i+k=t.size/\(0<=q/\q<nx.length)/\lsF nx acc s (-1) f (t.data.toList.drop f)=lsF nx acc q l i (t.data.toList.drop i)) ?_ (k:=t.size-f) ⟨f,s, -1,rfl,rfl,by omega,j,rfl⟩;rintro k F A ⟨i,q,l,rfl,rfl,u,e,g⟩;have b:q.toNat<acc.length:=by omega
 have r:(↑q.toNat:Int)=q:=by omega
 have H:aG (blV acc) q=acc[q.toNat]:=by have:=bv b;rw[r]at this;exact this
 refine(DK _ _ _ s acc nx t n f q l i).mpr ?_;have a:i=t.size->lsF nx acc s (-1) f (t.data.toList.drop f)=bif acc[q.toNat]then(i:Int)else l:=λd=>by rw[g,Hy (by omega)];show(bif acc.getD q.toNat false then _ else _)=_;rw[gD b]
 rw[r,H,bc];refine⟨⟨e.1,by omega⟩,di b,?_⟩;refine Sp.intro (λc=>Sp.intro (λd=>?_) (λd=>?_)) (λc=>Sp.intro (λd=>?_) (λd=>?_));have d:=odt d;have a:=a (by omega);rw[c]at a;exact p _ a (by simp) _;rotate_left;have d:=odt d;have a:=a (by omega);rw[c]at a;refine Sp.intro (λz=>p _ a (odt z) _) (λz=>⟨.dat (aN _),.dat (aK _),?_⟩);rw[aA (x:=(f:Int)+1) (by omega) (by omega)];exact w _ a (odf z);all_goals
  have d:=odf d;have m:i<t.data.toList.length:=by omega
  have o:t.data.toList[i].toNat<256:=t.data.toList[i].toNat_lt;have G:(↑(Int.toNat (↑(t.data.toList[i].toNat):Int)):Int)=(t.data.toList[i].toNat:Int):=by omega
  rw[gN m,G,Gs];obtain⟨E,D,C,B,y⟩:=jy h e.1 e.2 o;refine⟨E,D,⟨by omega,by omega⟩,⟨by omega,by rw[C];omega⟩,B,.dat (aN _),.dat (aK _),k-1,by omega,i+1,stp nx q t.data.toList[i].toNat,bif acc[q.toNat]then(i:Int)else l,?_,rfl,by omega,iz h e.1 e.2 o,?_⟩;rw[y,aA (x:=(i:Int)+1) (by omega) (by omega),c];rfl;rw[g,Hj m];show lsF nx acc _ (bif acc.getD q.toNat false then _ else _) _ _=_;rw[gD b]
theorem Fd{a:AU}(j:WfA a)(t:ByteArray)(u:t.size<9223372036854775808):Walk env f14 [auV a,.string t] (fiV (fiI a t)):=by
 obtain⟨s,b,h⟩:=a;refine gt xW (d:=1) (HF_fi _) ((jFd_nf _ s b h t).mpr ?_);rw[cx,bX];refine⟨iy (a:=(s,b,h)) j,Sp.intro (λc=>?_) (λc=>?_)⟩;have c:¬ chkA (s,b,h)=0:=by simpa using c
 show fiV ((0,0,false),_)=_;unfold fiI;rw[H8 c];rfl;have c:chkA (s,b,h)=0:=by simpa using c
 have o:=lq j c;refine Sp.intro (λd=>?_) (λd=>⟨.dat (aN _),.dat (aK _),?_⟩);have d:=odt d;show fiV ((0,0,false),3)=_;unfold fiI;rw[decide_eq_true c,H8 (by omega)];rfl;have d:=odf d;have e:fiI (s,b,h) t=(fdN h b s t.data.toList (t.size+1) 0,0):=by unfold fiI;rw[decide_eq_true c,decide_eq_true (by omega)];rfl
 rw[e];refine LAtZ.stepF xW [] [] [] [1,2,9] (by kernel_rfl) (λk F A=>∃ f:Nat,F=E5 t 0 f/\A=hAu s (blV b) (roV h)/\f+k=t.size+1/\fdN h b s t.data.toList (t.size+1) 0=fdN h b s t.data.toList k f) ?_ (k:=t.size+1) ⟨0,rfl,rfl,by omega,rfl⟩;rintro k F A ⟨f,rfl,rfl,r,q⟩;rw[q];refine(DL _ _ s b h t 0 f).mpr (Sp.intro (λg=>?_) (λg=>?_));have g:=odt g;obtain⟨m,rfl⟩:∃ m,k=m+1:=⟨k-1,by omega⟩;refine⟨.dat (aN _),.dat (aK _),fd_in _ _ o (by omega) (n:=0) (by omega) (λl e p A=>?_) λl e p=>⟨m,by omega,f+1,rfl,rfl,by omega,?_⟩⟩;show fiV ((f,l,true),0)=fiV (fdN h b s t.data.toList (m+1) f,0);unfold fdN;rw[e,decide_eq_true p];rfl;show fdN h b s t.data.toList (m+1) f=_;rw[fdN,e,H8 p];rfl;have g:=odf g;obtain rfl:k=0:=by omega
 rfl
def wtX(g:AU->ByteArray->Value):Lh->Lj
 | [v,.string t]=>(match auQ v with|some a=>some (g a t)|none=>none)
 |_=>none
theorem qC{g:AU->ByteArray->Value}{f:FuncId}{fn:Func}(b:env.fn f=some fn)(d:∀ a t,WfA a->t.size<9223372036854775808->Walk env fn [auV a,.string t] (g a t)):∀ args A p v A',bD acP (wtX g) args A=some (p,v,A')->PH p->CallAt env f args A v A':=de am ap b λargs v h e=>by
 unfold wtX at h;split at h;· rename_i u t;obtain⟨⟨c,m⟩,k⟩:WfV u/\t.size<9223372036854775808:=e;split at h;rotate_left;cases h;rename_i a j;cases h;rw[ku c j];have:=d _ t m k;rw[<-c]at this;exact⟨HF.cons (by rw[c];exact nD _) (HF.cons (.scal rfl) HF.nil),this⟩
 cases h
theorem fi_tab:∀ args A p v A',bD acP (wtX λa t=>fiV (fiI a t)) args A=some (p,v,A')->PH p->CallAt env 13 args A v A':=qC (fn:=f13) rfl λa t h b=>Fc h t b
theorem fd_tab:∀ args A p v A',bD acP (wtX λa t=>fiV (fiI a t)) args A=some (p,v,A')->PH p->CallAt env 14 args A v A':=qC (fn:=f14) rfl λa t h b=>Fd h t b
end
end Go.T9
