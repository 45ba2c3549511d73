/- A part of the proof. -/
import Derived.Test.YtegefclhhjbfhaaGreatDoorY0
set_option linter.unusedVariables false
set_option linter.unusedSimpArgs false
set_option maxRecDepth 1000000
namespace Go.T9
open Go Go.AM Go.Proofs.Tryz
noncomputable section
abbrev AU:=Int×Li×La
variable {l:Le}{i:Nat}
def blV(l:Li):Lh:=l.map Value.bool
def inV(l:Le):Lh:=l.map (Value.int .i64)
def roV(l:La):Lh:=l.map λr=>dat 1 (inV r)
def auV(a:AU):Value:=.agg ⟨[.int .i64 a.1,dat 1 (blV a.2.1),dat 1 (roV a.2.2)]⟩
def deI:Value->Int
 | .int _ n=>n
 |_=>0
def deB:Value->Bool
 | .bool b=>b
 |_=>false
def deR:Value->Le
 | .func _ ⟨l⟩ _=>l.map deI
 |_=>[]
theorem cX(l:Le):(inV l).map deI=l:=by
 unfold inV;rw[H4];conv=>rhs;rw[<-IC l]
 exact HQ λx _=>rfl
theorem bf(l:Li):(blV l).map deB=l:=by
 unfold blV;rw[H4];conv=>rhs;rw[<-IC l]
 exact HQ λx _=>rfl
theorem bd(l:La):(roV l).map deR=l:=by
 unfold roV;rw[H4];conv=>rhs;rw[<-IC l]
 exact HQ λx _=>cX x
theorem o9(l:Le):∀ x∈inV l,HF x:=λx a=>by obtain⟨n,_,rfl⟩:=Hn.1 a;exact HFi _ _
theorem ax(l:Li):∀ x∈blV l,HF x:=λx a=>by obtain⟨n,_,rfl⟩:=Hn.1 a;exact HFb _
theorem aq(l:La):∀ x∈roV l,HF x:=λx a=>by obtain⟨n,_,rfl⟩:=Hn.1 a;exact .dat (o9 n)
theorem fH(a:AU):HF (auV a):=.agg (HF.cons (HFi _ _) (HF.cons (.dat (ax _)) (HF.cons (.dat (aq _)) HF.nil)))
theorem aL(h:i<l.length):nth (inV l) i=some (.int .i64 l[i]):=by rw[aP];simp[inV,h]
theorem aA(h:i<l.length):aa (inV l) (i:Int)=l[i]:=by unfold aa;rw[D',aL h]
theorem dj{l:Li}(h:i<l.length):nth (blV l) i=some (.bool l[i]):=by rw[aP];simp[blV,h]
theorem bw{l:Li}(h:i<l.length):az (blV l) (i:Int)=l[i]:=by unfold az;rw[D',dj h]
def ae(a:Lh)(i:Int):Lh:=match nth a i.toNat with|some (.func _ ⟨l⟩ _)=>l|_=>[]
theorem cG{l:La}(h:i<l.length):nth (roV l) i=some (dat 1 (inV l[i])):=by rw[aP];simp[roV,h]
theorem bL{l:La}(h:i<l.length):ae (roV l) (i:Int)=inV l[i]:=by unfold ae;rw[D',cG h];rfl
theorem af(l:Le):(inV l).length=l.length:=Hp _
theorem aT(l:Li):(blV l).length=l.length:=Hp _
theorem aG(l:La):(roV l).length=l.length:=Hp _
def elI:El:=.of λ_ _ els i=>some (.int .i64 (aa els i))
def elRw:El:=.of λ_ _ els i=>some (.func (.yield 1) ⟨ae els i⟩ ⟨[]⟩)
def outI(n x:Int):Bool:=decide (x<0)||decide (n<=x)
def ixF{α :Type}(p: α ->Bool):List α ->Nat->Int
 | [],_=> -1
 |x::l,i=>bif p x then(i:Int)else ixF p l (i+1)
def XIx:SX:=⟨env,[],elI,λ_=>.autoN [] [] [] [0,1,7,8]⟩
theorem BV:XIx.Ok:=⟨ai,aD,am,.nil⟩
def hIx(n:Int):AH:=⟨Nd Lf (some (.cells [.int .i64 n] 3)) Lf,1⟩
def cOut(B:Nat):Value:=.func (.func 42) ⟨[]⟩ ⟨[.pointer (some ⟨B,0,none⟩)]⟩
def frIx(l:Le)(i:Nat):T Value:=(Nd (Nd (Nd (Nd Lf (some (.int .i64 (inV l).length)) Lf) none Lf) (some (cOut 0)) Lf) (some (dat 1 (inV l))) (Nd (Nd (Nd Lf (some (.int .i64 i)) Lf) none Lf) none Lf))
def kFinIx(K:KV):KX:=finK XIx.E (f75.results).toList K
def jIx(K:KV)(n:Int)(l:Le):Prop:=aN XIx 2 f75 [dat 1 (inV l),cOut 0] (hIx n) K
def jIxL(K:KV)(a:KF)(n:Int)(l:Le)(i:Nat):Prop:=aI XIx 2 (Func.ntmps f75) (hIx n) (ay f75) [1,0,1,0] (kFinIx K) [] [] [] [0,1,7,8] a (frIx l i) (hIx n)
theorem jIx_nf(K:KV)(n:Int)(l:Le):jIx K n l=(HF (Vd 1 (inV l))/\LAtZ XIx 2 f75.ntmps (hIx n) (ay f75) [1,0,1,0] (finK (SX.E XIx) f75.results.toList K) (Ns (Ns (No (Sg (Vi (↑(List.length (inV l)):Int))) Lf) (Value.func (Go.Fn.func 42) ⟨[]⟩ (Array.mk [Value.pointer (some ⟨0,0,none⟩)])) Lf) (Vd 1 (inV l)) (No (No (Sg (Vi 0)) Lf) Lf)) (AH.mk (Sg (AObj.cells [Vi n] 3)) 1)):=by kernel_rfl
abbrev i_:=Value.pointer (some ⟨0,0,none⟩)
abbrev j_{A:Type}:=λ(a:List A)=>(↑(List.length a):Int)
abbrev m_:=λa b=>AObj.cells a b
abbrev q_:=λa b c=>Value.func (Go.Fn.func a) ⟨b⟩ (Array.mk c)
abbrev w_{α:Type}(a:T α):T α:=No (No a Lf) Lf
abbrev x_:=λa=>Sg (Vi (IntKind.wrap .i64 a))
abbrev H_{α:Type}(a:α):T α:=No (Sg a) Lf
abbrev P_:=λa b=>aa (inV a) b
abbrev Kw{α:Type}(a:T α)(b:α):T α:=Ns a b Lf
abbrev KJ:=λa b=>Sg (m_ a b)
theorem LS(K:KV)(a:KF)(n:Int)(l:Le)(i:Nat):jIxL K a n l i=(Sp (decide ((i:Int)<j_ (inV l))) ((0<=(i:Int)/\(i:Int)<j_ (inV l))/\nth (inV l) i=some (Vi (P_ l i))/\Sp (decide (aa (inV l) (i:Int)<0)) (K (Vi i) (AH.mk (KJ [Vi n] 3) 1)) (Sp (decide (n<=aa (inV l) i)) (K (Vi i) (AH.mk (KJ [Vi n] 3) 1)) (HF (Vd 1 (inV l))/\a (Ns (Kw (H_ (Vi (j_ (inV l)))) (q_ 42 [] [i_])) (Vd 1 (inV l)) (w_ (x_ ((i:Int)+1)))) (AH.mk (KJ [Vi n] 3) 1)))) (K (Vi (-1:Int)) (AH.mk (KJ [Vi n] 3) 1))):=by kernel_rfl
theorem Ei:type_of%(by have h:=@LS;revert h;delta i_ j_ m_ q_ w_ x_ H_ P_ Kw KJ;exact id):=@LS
theorem rJ{a :Type}{p: a ->Bool}{l:List a}(h:i<l.length):ixF p (l.drop i) i=bif p l[i]then(i:Int)else ixF p (l.drop (i+1)) (i+1):=by rw[H7 h];rfl
theorem wo{a :Type}{p: a ->Bool}{l:List a}(h:l.length<=i):ixF p (l.drop i) i= -1:=by rw[Is h];rfl
theorem ixF_neg{a :Type}{p: a ->Bool}:∀ {l:List a}{i:Nat},(0<=ixF p l i)↔l.any p=true
 | [],i=>by simp[ixF]
 | x::l,i=>by
  simp only[ixF,List.any_cons];cases b:p x with
  |true=>simp
  |false=>simpa using ixF_neg (l:=l)
theorem xm(Q:Value->AH->Prop)(n x:Int):endF env (hIx n) [] [] [] Q (.int .i64 x) (hIx n)=Q (.int .i64 x) (hIx n):=by kernel_rfl
theorem E6(n:Int)(l:Le)(g:l.length<9223372036854775808):WalkF env f75 [dat 1 (inV l),cOut 0] (hIx n) (.int .i64 (ixF (outI n) l 0)) (hIx n):=by
 refine aC BV (d:=2) (ns:=[]) (zs:=[]) (ws:=[]) ((jIx_nf _ n l).mpr ⟨.dat (o9 l),?_⟩);refine LAtZ.stepF BV [] [] [] [0,1,7,8] (by kernel_rfl) (λk F A=>∃ i:Nat,F=frIx l i/\A=hIx n/\i+k=l.length/\ixF (outI n) l 0=ixF (outI n) (l.drop i) i) ?_ (k:=l.length) ⟨0,rfl,rfl,by omega,by simp⟩;rintro k F A ⟨i,rfl,rfl,e,b⟩;refine(Ei _ _ n l i).mpr (Sp.intro (λh=>?_) (λh=>?_));have h:=odt h;rw[af]at h;have a:i<l.length:=by omega
 rw[rJ a]at b;refine⟨⟨by omega,by rw[af];exact h⟩,by rw[aL a,aA a],?_⟩;rw[aA a];refine Sp.intro (λc=>?_) (λc=>?_);refine(xm _ n i).mpr ⟨?_,rfl⟩;grind [outI];refine Sp.intro (λf=>?_) (λf=>?_);refine(xm _ n i).mpr ⟨?_,rfl⟩;grind [outI];refine⟨.dat (o9 l),k-1,by omega,i+1,?_,rfl,by omega,?_⟩;rw[aF (x:=(i:Int)+1) (by omega) (by omega)];rfl;grind [outI];have h:=odf h;rw[af]at h;refine(xm _ n (-1)).mpr ⟨?_,rfl⟩;rw[b,wo (by omega)]
def IsI(l:Lh):Prop:=l=inV (l.map deI)/\l.length<9223372036854775808
theorem isI_in(h:l.length<9223372036854775808):IsI (inV l):=⟨by rw[cX],by rw[af];exact h⟩
def noAr:TypeId->Lk:=λ_=>none
def spIx:Lh->List AObj->Option (Ll×Value×List AObj)
 | [.func (.yield sz) ⟨l⟩ ⟨[]⟩,.func (.func g) ⟨[]⟩ ⟨[.pointer (some ⟨B,o,none⟩)]⟩],[.cells [.int .i64 n] e]=>
   bif (Nat.beq sz 1&&Nat.beq g 42)&&((Nat.beq B 0&&Nat.beq o 0)&&Nat.beq e 3)then some (some (IsI l),.int .i64 (ixF (outI n) (l.map deI) 0),[.cells [.int .i64 n] e])else none
 |_,_=>none
theorem Fl(n:Int):aQ [.cells [.int .i64 n] 3]=hIx n:=by kernel_rfl
theorem ix_tab:∀ args A p v A',frmR noAr spIx args A=some (p,v,A')->PH p->CallAt env 75 args A v A':=aS ai (fn:=f75) rfl λargs c p v b h f=>by unfold spIx at h;split at h;rename_i d l g B o n e;cases a:(Nat.beq d 1&&Nat.beq g 42)&&((Nat.beq B 0&&Nat.beq o 0)&&Nat.beq e 3);rw[a]at h;cases h;rw[a]at h;simp only[C',osI,Hs]at h;obtain⟨rfl,rfl,rfl⟩:=h;simp only[f',Hy]at a;obtain⟨⟨rfl,rfl⟩,⟨rfl,rfl⟩,rfl⟩:=a;obtain⟨k,j⟩:IsI l:=f;have:=E6 n (l.map deI) (by simpa using j);rw[<-k]at this;rw[Fl];exact this;cases h
def XRx:SX:=⟨env,[(75,frmR noAr spIx)],elRw,λ_=>.autoN [] [] [] [0,1,7,8]⟩
theorem BR:XRx.Ok:=⟨ai,aD,am,.cons ix_tab .nil⟩
def hRx(n:Int):AH:=⟨Nd (Nd Lf (some (.cells [.int .i64 n] 3)) Lf) (some (.cells [cOut 1] 71)) Lf,2⟩
def cRow(B:Nat):Value:=.func (.func 44) ⟨[]⟩ ⟨[.pointer (some ⟨B,0,none⟩)]⟩
def frRx(l:La)(i:Nat):T Value:=(Nd (Nd (Nd (Nd Lf (some (.int .i64 (roV l).length)) Lf) none Lf) (some (cRow 0)) Lf) (some (dat 1 (roV l))) (Nd (Nd (Nd Lf (some (.int .i64 i)) Lf) none Lf) none Lf))
def kFinRx(K:KV):KX:=finK XRx.E (f74.results).toList K
def jRx(K:KV)(n:Int)(l:La):Prop:=aN XRx 4 f74 [dat 1 (roV l),cRow 0] (hRx n) K
def jRxL(K:KV)(a:KF)(n:Int)(l:La)(i:Nat):Prop:=aI XRx 4 (Func.ntmps f74) (hRx n) (ay f74) [1,0,1,0] (kFinRx K) [] [] [] [0,1,7,8] a (frRx l i) (hRx n)
abbrev c_:=λa b=>Value.pointer (some ⟨a,b,none⟩)
abbrev Q_:=λa b c=>Ns (Sg a) (m_ b c) Lf
abbrev S_:=λa=>Vd 1 (roV a)
abbrev Kx:=λa=>Sg (Vi a)
abbrev KY:=λa=>j_ (roV a)
abbrev LQ:=λa=>HF (S_ a)
theorem LT(K:KV)(n:Int)(l:La):jRx K n l=(LQ l/\LAtZ XRx 4 f74.ntmps (hRx n) (ay f74) [1,0,1,0] (finK (SX.E XRx) f74.results.toList K) (Ns (Kw (H_ (Vi (KY l))) (q_ 44 [] [i_])) (S_ l) (w_ (Kx 0))) (AH.mk (Q_ (m_ [Vi n] 3) [q_ 42 [] [c_ 1 0]] 71) 2)):=by kernel_rfl
theorem jRx_nf:type_of%(by have h:=@LT;revert h;delta c_ i_ j_ m_ q_ w_ H_ Q_ S_ Kw Kx KY LQ;exact id):=@LT
theorem LU(K:KV)(a:KF)(n:Int)(l:La)(i:Nat):jRxL K a n l i=(Sp (decide ((i:Int)<KY l)) ((0<=(i:Int)/\(i:Int)<KY l)/\nth (roV l) i=some (Vd 1 (ae (roV l) i))/\HFs [Vd 1 (ae (roV l) i)] (IsI (ae (roV l) i))/\Sp (decide (0<=ixF (outI n) (List.map deI (ae (roV l) i)) 0)) (K (Vi i) (AH.mk (Q_ (m_ [Vi n] 3) [q_ 42 [] [c_ 1 0]] 71) 2)) (LQ l/\a (Ns (Kw (H_ (Vi (KY l))) (q_ 44 [] [i_])) (S_ l) (w_ (x_ ((i:Int)+1)))) (AH.mk (Q_ (m_ [Vi n] 3) [q_ 42 [] [c_ 1 0]] 71) 2))) (K (Vi (-1:Int)) (AH.mk (Q_ (m_ [Vi n] 3) [q_ 42 [] [c_ 1 0]] 71) 2))):=by kernel_rfl
theorem DS:type_of%(by have h:=@LU;revert h;delta c_ i_ j_ m_ q_ w_ x_ H_ Q_ S_ Kw KY LQ;exact id):=@LU
theorem BC(Q:Value->AH->Prop)(n x:Int):endF env (hRx n) [] [] [] Q (.int .i64 x) (hRx n)=Q (.int .i64 x) (hRx n):=by kernel_rfl
def outR(n:Int)(r:Le):Bool:=r.any (outI n)
theorem C5(n:Int)(l:La)(j:l.length<9223372036854775808)(f:∀ r∈l,r.length<9223372036854775808):WalkF env f74 [dat 1 (roV l),cRow 0] (hRx n) (.int .i64 (ixF (outR n) l 0)) (hRx n):=by
 refine aC BR (d:=4) (ns:=[]) (zs:=[]) (ws:=[]) ((jRx_nf _ n l).mpr ⟨.dat (aq l),?_⟩);refine LAtZ.stepF BR [] [] [] [0,1,7,8] (by kernel_rfl) (λk F A=>∃ i:Nat,F=frRx l i/\A=hRx n/\i+k=l.length/\ixF (outR n) l 0=ixF (outR n) (l.drop i) i) ?_ (k:=l.length) ⟨0,rfl,rfl,by omega,by simp⟩;rintro k F A ⟨i,rfl,rfl,g,a⟩;refine(DS _ _ n l i).mpr (Sp.intro (λh=>?_) (λh=>?_));have h:=odt h;rw[aG]at h;have b:i<l.length:=by omega
 have e:=f l[i] (Hq b);rw[rJ b]at a;rw[bL b,cX];refine⟨⟨by omega,by rw[aG];exact h⟩,cG b,⟨.dat (o9 _),isI_in e⟩,Sp.intro (λc=>?_) (λc=>?_)⟩;have c:outR n l[i]=true:=ixF_neg.1 (odt c);refine(BC _ n i).mpr ⟨?_,rfl⟩;rw[a,c];rfl;have c:outR n l[i]=false:=by grind [odf,ixF_neg,outR,outI,absurd]
 refine⟨.dat (aq l),k-1,by omega,i+1,?_,rfl,by omega,?_⟩;rw[aF (x:=(i:Int)+1) (by omega) (by omega)];rfl;rw[a,c];rfl;have h:=odf h;rw[aG]at h;refine(BC _ n (-1)).mpr ⟨?_,rfl⟩;rw[a,wo (by omega)]
def IsR(l:Lh):Prop:=l=roV (l.map deR)/\l.length<9223372036854775808/\∀ r∈l.map deR,r.length<9223372036854775808
theorem isR_ro{l:La}(h:l.length<9223372036854775808)(a:∀ r∈l,r.length<9223372036854775808):IsR (roV l):=⟨by rw[bd],by rw[aG];exact h,by rw[bd];exact a⟩
def spRx:Lh->List AObj->Option (Ll×Value×List AObj)
 | [.func (.yield sz) ⟨l⟩ ⟨[]⟩,.func (.func g) ⟨[]⟩ ⟨[.pointer (some ⟨B,o,none⟩)]⟩],[.cells [.func (.func g2) ⟨[]⟩ ⟨[.pointer (some ⟨B2,o2,none⟩)]⟩] e,.cells [.int .i64 n] e2]=>
   bif ((Nat.beq sz 1&&Nat.beq g 44)&&(Nat.beq B 0&&Nat.beq o 0))&&(((Nat.beq g2 42)&&(Nat.beq B2 1&&Nat.beq o2 0))&&(Nat.beq e 71&&Nat.beq e2 3))then some (some (IsR l),.int .i64 (ixF (outR n) (l.map deR) 0),[.cells [cOut 1] e,.cells [.int .i64 n] e2])else none
 |_,_=>none
theorem Fg(n:Int):aQ [.cells [cOut 1] 71,.cells [.int .i64 n] 3]=hRx n:=by kernel_rfl
theorem rx_tab:∀ args A p v A',frmR noAr spRx args A=some (p,v,A')->PH p->CallAt env 74 args A v A':=aS ai (fn:=f74) rfl λargs c p v b h k=>by unfold spRx at h;split at h;rename_i f l g B o s u j e n t;cases a:((Nat.beq f 1&&Nat.beq g 44)&&(Nat.beq B 0&&Nat.beq o 0))&&(((Nat.beq s 42)&&(Nat.beq u 1&&Nat.beq j 0))&&(Nat.beq e 71&&Nat.beq t 3));rw[a]at h;cases h;rw[a]at h;simp only[C',osI,Hs]at h;obtain⟨rfl,rfl,rfl⟩:=h;simp only[f',Hy]at a;obtain⟨⟨⟨rfl,rfl⟩,rfl,rfl⟩,⟨rfl,rfl,rfl⟩,rfl,rfl⟩:=a;obtain⟨r,q,m⟩:IsR l:=k;have:=C5 n (l.map deR) (by simpa using q) m;rw[<-r]at this;have d:=Fg n;unfold cOut at d;unfold cOut;rw[d];exact this;cases h
def chkA(a:AU):Int:=bif decide (300<(a.2.2.length:Int))then 3 else bif decide ((a.2.2.length:Int)=0)|| !decide ((a.2.1.length:Int)=a.2.2.length)then 2 else bif a.2.2.any (λr=> !decide ((r.length:Int)=256))then 2 else bif outI a.2.2.length a.1||a.2.2.any (outR a.2.2.length)then 9 else 0
def WfA(a:AU):Prop:=a.2.1.length<9223372036854775808/\a.2.2.length<9223372036854775808/\∀ r∈a.2.2,r.length<9223372036854775808
def XCa:SX:=⟨env,[(74,frmR noAr spRx)],elRw,λ_=>.autoN [] [] [] [1,3,24,25,26]⟩
theorem B8:XCa.Ok:=⟨ai,aD,am,.cons rx_tab .nil⟩
def hCa(s n:Int)(b a:Lh):AH:=⟨Nd (Nd Lf (some (.cells [.int .i64 n] 3)) Lf) (some (.cells [.int .i64 s,dat 1 b,dat 1 a] 25)) Lf,2⟩
def frCa(l:La)(i:Nat):T Value:=(Nd (Nd (Nd Lf (some (.pointer (some ⟨1,0,none⟩))) Lf) (some (.pointer (some ⟨0,0,none⟩))) (Nd (Nd Lf none (Nd Lf (some (.int .i64 (roV l).length)) Lf)) none Lf)) none (Nd (Nd (Nd Lf none (Nd Lf (some (dat 1 (roV l))) Lf)) none Lf) none (Nd (Nd Lf none (Nd Lf (some (.int .i64 i)) Lf)) none Lf)))
def kFinCa(K:KV):KX:=finK XCa.E (f24.results).toList K
def jCa(K:KV)(s:Int)(b:Li)(a:La):Prop:=aN XCa 5 f24 [.agg ⟨[.int .i64 s,dat 1 (blV b),dat 1 (roV a)]⟩] ⟨.leaf,0⟩ K
def jCaL(K:KV)(c:KF)(s:Int)(b:Li)(a:La)(i:Nat):Prop:=aI XCa 5 (Func.ntmps f24) ⟨.leaf,0⟩ (ay f24) [1,1,1,0,1,0] (kFinCa K) [] [] [] [1,3,24,25,26] c (frCa a i) (hCa s (roV a).length (blV b) (roV a))
abbrev h_:=λa b c=>AObj.cells [Vi a,Vd 1 (blV b),Vd 1 (roV c)] 25
abbrev T_{α:Type}(a:T α):T α:=No (No Lf a) Lf
abbrev U':=λa=>HF (Vd 1 (blV a))
theorem LW(K:KV)(s:Int)(b:Li)(a:La):jCa K s b a=(Sp (decide (300<KY a)) (K (Vi 3) (AH.mk (Kw (KJ [Vi (KY a)] 3) (h_ s b a)) 2)) (Sp (decide (KY a=0)) (K (Vi 2) (AH.mk (Kw (KJ [Vi (KY a)] 3) (h_ s b a)) 2)) (Sp (! decide (j_ (blV b)=KY a)) (K (Vi 2) (AH.mk (Kw (KJ [Vi (KY a)] 3) (h_ s b a)) 2)) (LQ a/\U' b/\LQ a/\LAtZ XCa 5 f24.ntmps (AH.mk Lf 0) (ay f24) [1,1,1,0,1,0] (finK (SX.E XCa) f24.results.toList K) (No (Ns (Sg (c_ 1 0)) i_ (T_ (Kx (KY a)))) (No (T_ (Sg (S_ a))) (T_ (Kx 0)))) (AH.mk (Kw (KJ [Vi (KY a)] 3) (h_ s b a)) 2))))):=by kernel_rfl
theorem jCa_nf:type_of%(by have h:=@LW;revert h;delta c_ h_ i_ j_ m_ S_ T_ U' Kw Kx KJ KY LQ;exact id):=@LW
abbrev n_:=λa=>List.map deR (roV a)
abbrev K_:=λa b c d=>AH.mk (Ns a b c) d
theorem LX(K:KV)(c:KF)(s:Int)(b:Li)(a:La)(i:Nat):jCaL K c s b a i=(Sp (decide ((i:Int)<KY a)) ((0<=(i:Int)/\(i:Int)<KY a)/\nth (roV a) i=some (Vd 1 (ae (roV a) i))/\Sp (! decide (j_ (ae (roV a) i)=256)) (K (Vi 2) (AH.mk (Kw (KJ [Vi (KY a)] 3) (h_ s b a)) 2)) (LQ a/\U' b/\LQ a/\c (No (Ns (Sg (c_ 1 0)) i_ (T_ (Kx (KY a)))) (No (T_ (Sg (S_ a))) (T_ (x_ ((i:Int)+1))))) (AH.mk (Kw (KJ [Vi (KY a)] 3) (h_ s b a)) 2))) (Sp (decide (s<0)) (K (Vi 9) (K_ (KJ [Vi (KY a)] 3) (h_ s b a) (KJ [q_ 42 [] [c_ 1 0]] 71) 3)) (Sp (decide (KY a<=s)) (K (Vi 9) (K_ (KJ [Vi (KY a)] 3) (h_ s b a) (KJ [q_ 42 [] [c_ 1 0]] 71) 3)) (HFs [S_ a] (IsR (roV a))/\Sp (decide (0<=ixF (outR (KY a)) (n_ a) 0)) (K (Vi 9) (K_ (KJ [Vi (KY a)] 3) (h_ s b a) (KJ [q_ 42 [] [c_ 1 0]] 71) 3)) (K (Vi 0) (K_ (KJ [Vi (KY a)] 3) (h_ s b a) (KJ [q_ 42 [] [c_ 1 0]] 71) 3)))))):=by kernel_rfl
theorem EH:type_of%(by have h:=@LX;revert h;delta c_ h_ i_ j_ m_ n_ q_ x_ K_ S_ T_ U' Kw Kx KJ KY LQ;exact id):=@LX
theorem eP{X:SX}(m:X.Ok){d:Nat}{fn:Func}{args:Lh}{v:Value}(j:HF v)(h:aN X d fn args ⟨.leaf,0⟩ (vV (λa=>a=v) (λa o=>Frz o a v))):Walk X.E fn args v:=by unfold aN at h;split at h;rename_i c k;split at h;rename_i F n;cases e:Nat.ble args.length fn.ntmps;rw[e]at h;exact h.elim;rw[e]at h;refine⟨c,F,k,e,n,(ik m (d:=d) h).mono λp r s q=>?_⟩;obtain⟨g,a,f,b⟩:=eG q;refine⟨g,a,f,?_⟩;rcases zC b with b|b;rw[b];exact .same j;exact b;exact h.elim;exact h.elim
theorem ju{a :Type}{p: a ->Bool}{l:List a}(h:i<l.length):(l.drop i).any p=(p l[i]||(l.drop (i+1)).any p):=by rw[H7 h];rfl
theorem nt{a :Type}{p: a ->Bool}{l:List a}(h:l.length<=i):(l.drop i).any p=false:=by rw[Is h];rfl
theorem GJ{a:AU}(w:WfA a):Walk env f24 [auV a] (.int .i64 (chkA a)):=by
 obtain⟨s,e,b⟩:=a;obtain⟨v,t,q⟩:=w;dsimp only at v t q;refine eP B8 (d:=5) (HFi _ _) ((jCa_nf _ s e b).mpr ?_);rw[aG,aT];unfold chkA;dsimp only;refine Sp.intro (λp=>?_) (λp=>?_);rw[p];rfl;rw[p];refine Sp.intro (λo=>?_) (λo=>?_);rw[o];rfl;rw[o];refine Sp.intro (λn=>?_) (λn=>?_);rw[n];rfl;rw[n];refine⟨.dat (aq _),.dat (ax _),.dat (aq _),?_⟩;simp only[HJ,Bool.or_self];refine LAtZ.stepF B8 [] [] [] [1,3,24,25,26] (by kernel_rfl) (λk F A=>∃ i:Nat,F=frCa b i/\A=hCa s (roV b).length (blV e) (roV b)/\i+k=b.length/\b.any (λr=> !decide ((r.length:Int)=256))=(b.drop i).any (λr=> !decide ((r.length:Int)=256))) ?_ (k:=b.length) ⟨0,by unfold frCa;rw[aG];rfl,by unfold hCa;rw[aG];rfl,by omega,by simp⟩;rintro k F A ⟨i,rfl,rfl,y,f⟩;refine(EH _ _ s e b i).mpr ?_;rw[aG];refine Sp.intro (λh=>?_) (λh=>?_);have h:=odt h;have g:i<b.length:=by omega
 rw[ju g]at f;rw[bL g,af];refine⟨⟨by omega,h⟩,cG g,Sp.intro (λc=>?_) (λc=>?_)⟩;rw[f,c];rfl;refine⟨.dat (aq _),.dat (ax _),.dat (aq _),k-1,by omega,i+1,?_,?_,by omega,?_⟩;rw[aF (x:=(i:Int)+1) (by omega) (by omega)];unfold frCa;rw[aG];rfl;rfl;rw[f,c];rfl;have h:=odf h;rw[nt (by omega)]at f;rw[f,bd];unfold outI;refine Sp.intro (λm=>?_) (λm=>?_);rw[m];rfl;rw[m];refine Sp.intro (λj=>?_) (λj=>?_);rw[j];rfl;rw[j];refine⟨⟨.dat (aq _),isR_ro t q⟩,Sp.intro (λu=>?_) (λu=>?_)⟩;rw[ixF_neg.1 (odt u)];rfl;have:b.any (outR b.length)=false:=by grind [outR,absurd,ixF_neg,odf]
 rw[this];rfl
def auD:Value->AU
 | .agg ⟨[.int _ s,.func _ ⟨bs⟩ _,.func _ ⟨rs⟩ _]⟩=>(s,bs.map deB,rs.map deR)
 |_=>(0,[],[])
theorem fy(a:AU):auD (auV a)=a:=by obtain⟨s,b,c⟩:=a;show(s,(blV b).map deB,(roV c).map deR)=_;rw[bf,bd]
def WfV(v:Value):Prop:=v=auV (auD v)/\WfA (auD v)
theorem gC{a:AU}(h:WfA a):WfV (auV a):=⟨by rw[fy],by rw[fy];exact h⟩
def auQ:Value->Option AU
 | .agg ⟨[.int .i64 s,.func (.yield 1) ⟨bs⟩ ⟨[]⟩,.func (.yield 1) ⟨rs⟩ ⟨[]⟩]⟩=>some (s,bs.map deB,rs.map deR)
 |_=>none
theorem sQ{v:Value}{a:AU}(h:v=auV (auD v))(d:auQ v=some a):a=auD v:=by
 rw[h]at d;have:auQ (auV (auD v))=some (auD v):=by obtain⟨s,b,c⟩:=auD v;show some (s,(blV b).map deB,(roV c).map deR)=_;rw[bf,bd]
 grind
def caX:Lh->Lj
 | [v]=>(match auQ v with|some a=>some (.int .i64 (chkA a))|none=>none)
 |_=>none
def caP:Lh->Ll
 | [v]=>some (WfV v)
 |_=>none
theorem lL:∀ args A p v A',bg caP caX args A=some (p,v,A')->PH p->CallAt env 24 args A v A':=dh ai am (fn:=f24) rfl λargs v h a=>by unfold caX at h;split at h;rename_i u;obtain⟨c,b⟩:WfV u:=a;grind [osI,sQ,GJ,fH];cases h
def elT(a bs:Lg):El:=.of λ_ t els i=>bif inL t a then some (.func (.yield 1) ⟨ae els i⟩ ⟨[]⟩)else bif inL t bs then some (.bool (az els i))else some (.int .i64 (aa els i))
def hAu(s:Int)(b a:Lh):AH:=⟨Nd Lf (some (.cells [.int .i64 s,dat 1 b,dat 1 a] 25)) Lf,1⟩
def XCr:SX:=⟨env,[],elT [33,62,72] [],λk=>.autoN [] [] [] (bif Nat.beq k 6 then [1,3]else bif Nat.beq k 13 then [1,4]else [1,4,5])⟩
theorem sW:XCr.Ok:=⟨ai,aD,am,.nil⟩
def frCr1(i:Nat):T Value:=(Nd (Nd (Nd Lf (some (.int .i64 i)) Lf) (some (.pointer (some ⟨0,0,none⟩))) Lf) none Lf)
def zW(i:Nat):T Value:=(Nd (Nd Lf (some (.pointer (some ⟨0,0,none⟩))) Lf) none (Nd (Nd Lf (some (.int .i64 i)) Lf) none Lf))
def FW(i j:Nat):T Value:=(Nd (Nd Lf (some (.pointer (some ⟨0,0,none⟩))) (Nd Lf (some (.int .i64 j)) Lf)) none (Nd (Nd Lf (some (.int .i64 i)) Lf) none Lf))
abbrev fCr:Func:=f27
def lk(K:KV):KX:=finK XCr.E (fCr.results).toList K
def jCr(K:KV)(s:Int)(b:Li)(a:La):Prop:=aN XCr 1 f27 [.agg ⟨[.int .i64 s,dat 1 (blV b),dat 1 (roV a)]⟩] ⟨.leaf,0⟩ K
def jCr1(K:KV)(c:KF)(s:Int)(a:Li)(b:La)(i:Nat):Prop:=aI XCr 1 (Func.ntmps f27) ⟨.leaf,0⟩ (ay f27) [1,1,1,0,1,0] (lk K) [] [] [] [1,3] c (frCr1 i) (hAu s (blV a) (roV b))
def jCr2(K:KV)(c:KF)(s:Int)(a:Li)(b:La)(i:Nat):Prop:=aI XCr 1 (Func.ntmps f27) ⟨.leaf,0⟩ (ay f27) [1,1,1,1,1,0,1,0] (lk K) [] [] [] [1,4] c (zW i) (hAu s (blV a) (roV b))
def kCr2(K:KV)(a:KF):KX:=stepF XCr 1 (Func.ntmps f27) ⟨.leaf,0⟩ (ay f27) [1,1,1,1,1,0,1,0] (lk K) [] [] [] [1,4] a
def jCr3(K:KV)(d b:KF)(s:Int)(a:Li)(c:La)(i j:Nat):Prop:=aI XCr 1 (Func.ntmps f27) ⟨.leaf,0⟩ (an (subC [1,1,1,1,1,0,1,0] (ay f27))) [1,0,0,1,0] (kCr2 K d) [] [] [] [1,4,5] b (FW i j) (hAu s (blV a) (roV c))
def XAf:SX:=⟨env,[],elT [17] [],λ_=>.autoN [] [] [] [1,2,5,10,11]⟩
theorem Cb:XAf.Ok:=⟨ai,aD,am,.nil⟩
def frAf(s:ByteArray)(q:Int)(i:Nat):T Value:=(Nd (Nd (Nd Lf none (Nd Lf (some (.int .i64 i)) Lf)) (some (.string s)) (Nd Lf (some (.int .i64 q)) Lf)) none (Nd Lf (some (.pointer (some ⟨0,0,none⟩))) (Nd (Nd Lf (some (.int .i64 s.size)) Lf) none Lf)))
def kFinAf(K:KV):KX:=finK XAf.E (f66.results).toList K
def jAf(K:KV)(s:Int)(b:Li)(a:La)(t:ByteArray):Prop:=aN XAf 1 f66 [.agg ⟨[.int .i64 s,dat 1 (blV b),dat 1 (roV a)]⟩,.string t] ⟨.leaf,0⟩ K
def jAfL(K:KV)(c:KF)(s:Int)(a:Li)(b:La)(t:ByteArray)(q:Int)(i:Nat):Prop:=aI XAf 1 (Func.ntmps f66) ⟨.leaf,0⟩ (ay f66) [1,1,0,1,0] (kFinAf K) [] [] [] [1,2,5,10,11] c (frAf t q i) (hAu s (blV a) (roV b))
theorem _root_.Go.HC:type_of% @List.take_succ_eq_append_getElem:=@List.take_succ_eq_append_getElem
theorem LY(K:KV)(s:Int)(b:Li)(a:La):jCr K s b a=(Sp (decide (300<KY a)) (K (Vi 3) (AH.mk (Sg (h_ s b a)) 1)) (Sp (decide (KY a=0)) (K (Vi 2) (AH.mk (Sg (h_ s b a)) 1)) (Sp (! decide (j_ (blV b)=KY a)) (K (Vi 2) (AH.mk (Sg (h_ s b a)) 1)) (U' b/\LQ a/\LAtZ XCr 1 f27.ntmps (AH.mk Lf 0) (ay f27) [1,1,1,0,1,0] (finK (SX.E XCr) f27.results.toList K) (No (Ns (Kx 0) i_ Lf) Lf) (AH.mk (Sg (h_ s b a)) 1))))):=by kernel_rfl
theorem jCr_nf:type_of%(by have h:=@LY;revert h;delta h_ i_ j_ S_ U' Kx KY LQ;exact id):=@LY
theorem LZ(K:KV)(c:KF)(s:Int)(b:Li)(a:La)(i:Nat):jCr1 K c s b a i=(Sp (decide ((i:Int)<KY a)) ((0<=(i:Int)/\(i:Int)<KY a)/\nth (roV a) i=some (Vd 1 (ae (roV a) i))/\Sp (! decide (j_ (ae (roV a) i)=256)) (K (Vi 2) (AH.mk (Sg (h_ s b a)) 1)) (U' b/\LQ a/\c (No (Ns (x_ ((i:Int)+1)) i_ Lf) Lf) (AH.mk (Sg (h_ s b a)) 1))) (Sp (decide (s<0)) (K (Vi 9) (AH.mk (Sg (h_ s b a)) 1)) (Sp (decide (KY a<=s)) (K (Vi 9) (AH.mk (Sg (h_ s b a)) 1)) (U' b/\LQ a/\LAtZ XCr 1 f27.ntmps (AH.mk Lf 0) (ay f27) [1,1,1,1,1,0,1,0] (lk K) (No (Sg i_) (H_ (Vi 0))) (AH.mk (Sg (h_ s b a)) 1))))):=by kernel_rfl
theorem EE:type_of%(by have h:=@LZ;revert h;delta h_ i_ j_ x_ H_ S_ U' KY LQ;exact id):=@LZ
theorem L0(K:KV)(c:KF)(s:Int)(b:Li)(a:La)(i:Nat):jCr2 K c s b a i=(Sp (decide ((i:Int)<KY a)) (U' b/\LQ a/\LAtZ XCr 1 f27.ntmps (AH.mk Lf 0) (an (subC [1,1,1,1,1,0,1,0] (ay f27))) [1,0,0,1,0] (stepF XCr 1 f27.ntmps (AH.mk Lf 0) (ay f27) [1,1,1,1,1,0,1,0] (lk K) [] [] [] [1,4] c) (No (Ns Lf i_ (Kx 0)) (H_ (Vi i))) (AH.mk (Sg (h_ s b a)) 1)) (K (Vi 0) (AH.mk (Sg (h_ s b a)) 1))):=by kernel_rfl
theorem ED:type_of%(by have h:=@L0;revert h;delta h_ i_ j_ H_ S_ U' Kx KY LQ;exact id):=@L0
abbrev OI(a:Nat)(b:La)(c:Nat):Prop:=(0<=(a:Int)/\(a:Int)<j_ (ae (roV b) c))
theorem L1(K:KV)(d:KF)(c:KF)(s:Int)(b:Li)(a:La)(i j:Nat):jCr3 K d c s b a i j=(Sp (decide ((j:Int)<256)) ((0<=(i:Int)/\(i:Int)<KY a)/\nth (roV a) i=some (Vd 1 (ae (roV a) i))/\OI j a i/\nth (ae (roV a) i) j=some (Vi (aa (ae (roV a) i) j))/\Sp (decide (aa (ae (roV a) i) (j:Int)<0)) (K (Vi 9) (AH.mk (Sg (h_ s b a)) 24)) ((0<=(i:Int)/\(i:Int)<KY a)/\nth (roV a) i=some (Vd 1 (ae (roV a) i))/\OI j a i/\nth (ae (roV a) i) j=some (Vi (aa (ae (roV a) i) j))/\Sp (decide (KY a<=aa (ae (roV a) i) j)) (K (Vi 9) (AH.mk (Sg (h_ s b a)) 24)) (U' b/\LQ a/\c (No (Ns Lf i_ (x_ ((j:Int)+1))) (H_ (Vi i))) (AH.mk (Sg (h_ s b a)) 1)))) (U' b/\LQ a/\d (No (Sg i_) (No (x_ ((i:Int)+1)) Lf)) (AH.mk (Sg (h_ s b a)) 1))):=by kernel_rfl
theorem EC:type_of%(by have h:=@L1;revert h;delta OI h_ i_ j_ x_ H_ S_ U' KY LQ;exact id):=@L1
theorem jAf_nf(K:KV)(s:Int)(b:Li)(a:La)(t:ByteArray):jAf K s b a t=(HF (Vd 1 (blV b))/\HF (Vd 1 (roV a))/\LAtZ XAf 1 f66.ntmps (AH.mk Lf 0) (ay f66) [1,1,0,1,0] (finK (SX.E XAf) f66.results.toList K) (No (Ns (No Lf (Sg (Vi 0))) (Vs t) (Sg (Vi s))) (Ns Lf (Value.pointer (some ⟨0,0,none⟩)) (No (Sg (Vi (↑(ByteArray.size t):Int))) Lf))) (AH.mk (Sg (AObj.cells [Vi s,Vd 1 (blV b),Vd 1 (roV a)] 25)) 1)):=by kernel_rfl
abbrev o_:=λa=>(↑(Int.toNat a):Int)
abbrev r_:=λa b=>ae (roV a) (↑(Int.toNat b):Int)
abbrev G_:=λa=>Int.toNat a
abbrev I_:=λ(a:Nat)=>(↑ a:Int)
abbrev Lr:=λa=>Vi (I_ a)
theorem L2(K:KV)(c:KF)(s:Int)(b:Li)(a:La)(t:ByteArray)(q:Int)(i:Nat):jAfL K c s b a t q i=(Sp (decide ((i:Int)<I_ (ByteArray.size t))) ((0<=q/\q<KY a)/\nth (roV a) (G_ (o_ q))=some (Vd 1 (r_ a q))/\(0<=(i:Int)/\(i:Int)<I_ (ByteArray.size t))/\(0<=aY t i/\aY t (i:Int)<j_ (r_ a q))/\nth (r_ a q) (G_ (o_ (aY t i)))=some (Vi (aa (r_ a q) (o_ (aY t i))))/\U' b/\LQ a/\c (No (Ns (No Lf (x_ ((i:Int)+1))) (Vs t) (Kx (aa (r_ a q) (o_ (aY t i))))) (Ns Lf i_ (H_ (Lr (ByteArray.size t))))) (AH.mk (Sg (h_ s b a)) 1)) (K (Vi q) (AH.mk (Sg (h_ s b a)) 1))):=by kernel_rfl
theorem E2:type_of%(by have h:=@L2;revert h;delta h_ i_ j_ o_ r_ x_ G_ H_ I_ S_ U' Kx KY Lr LQ;exact id):=@L2
theorem z9(K:KV)(again2:KF)(s:Int)(acc:Li)(nx:La)(i:Nat)(d:i<nx.length)(n:nx.length<9223372036854775808)(e:nx[i].length=256)
 (o:outR nx.length nx[i]=true->∀ A,K (.int .i64 9) A) (g:outR nx.length nx[i]=false->again2 (zW (i+1)) (hAu s (blV acc) (roV nx))):
 LAtZ XCr 1 (Func.ntmps f27) ⟨.leaf,0⟩ (an (subC [1,1,1,1,1,0,1,0] (ay f27))) [1,0,0,1,0] (kCr2 K again2) (FW i 0) (hAu s (blV acc) (roV nx)):=by
 refine LAtZ.stepF sW [] [] [] [1,4,5] (by kernel_rfl) (λk F A=>∃ j:Nat,F=FW i j/\A=hAu s (blV acc) (roV nx)/\j+k=256/\outR nx.length nx[i]=(nx[i].drop j).any (outI nx.length)) ?_ (k:=256) ⟨0,rfl,rfl,by omega,by simp[outR]⟩;rintro k F A ⟨j,rfl,rfl,f,b⟩;refine(EC _ _ _ s acc nx i j).mpr ?_;rw[bL d,aG,af];refine Sp.intro (λh=>?_) (λh=>?_);have h:=odt h;have a:j<nx[i].length:=by omega
 rw[ju a]at b;rw[aA a];refine⟨⟨by omega,by omega⟩,cG d,⟨by omega,by omega⟩,aL a,Sp.intro (λc=>?_) (λc=>?_)⟩;grind [outI];refine⟨⟨by omega,by omega⟩,cG d,⟨by omega,by omega⟩,aL a,Sp.intro (λm=>?_) (λm=>?_)⟩;grind [outI];refine⟨.dat (ax _),.dat (aq _),k-1,by omega,j+1,?_,rfl,by omega,?_⟩;rw[aF (x:=(j:Int)+1) (by omega) (by omega)];rfl;grind [outI];have h:=odf h;rw[nt (by omega)]at b;refine⟨.dat (ax _),.dat (aq _),?_⟩;rw[aF (x:=(i:Int)+1) (by omega) (by omega)];exact g b
theorem Aa(K:KV)(s:Int)(acc:Li)(nx:La)(e:nx.length<9223372036854775808)(a:∀ r∈nx,r.length=256)
 (g:nx.any (outR nx.length)=true->∀ A,K (.int .i64 9) A) (j:nx.any (outR nx.length)=false->∀ A,K (.int .i64 0) A):
 LAtZ XCr 1 (Func.ntmps f27) ⟨.leaf,0⟩ (ay f27) [1,1,1,1,1,0,1,0] (lk K) (zW 0) (hAu s (blV acc) (roV nx)):=by
 refine LAtZ.stepF sW [] [] [] [1,4] (by kernel_rfl) (λk F A=>∃ i:Nat,F=zW i/\A=hAu s (blV acc) (roV nx)/\i+k=nx.length/\nx.any (outR nx.length)=(nx.drop i).any (outR nx.length)) ?_ (k:=nx.length) ⟨0,rfl,rfl,by omega,by simp⟩;rintro k F A ⟨i,rfl,rfl,f,b⟩;refine(ED _ _ s acc nx i).mpr ?_;rw[aG];refine Sp.intro (λh=>?_) (λh=>?_);have h:=odt h;have d:i<nx.length:=by omega
 rw[ju d]at b;refine⟨.dat (ax _),.dat (aq _),z9 K _ s acc nx i d e (a _ (Hq d)) (λc=>g (by rw[b,c];rfl)) λc=>⟨k-1,by omega,i+1,rfl,rfl,by omega,by rw[b,c];rfl⟩⟩;grind [odf,nt]
theorem xz{a:AU}(w:WfA a):Walk env f27 [auV a] (.int .i64 (chkA a)):=by
 obtain⟨s,e,b⟩:=a;obtain⟨v,q,u⟩:=w;dsimp only at v q u;refine eP sW (d:=1) (HFi _ _) ((jCr_nf _ s e b).mpr ?_);rw[aG,aT];unfold chkA;dsimp only;refine Sp.intro (λp=>?_) (λp=>?_);rw[p];rfl;rw[p];refine Sp.intro (λo=>?_) (λo=>?_);rw[o];rfl;rw[o];refine Sp.intro (λn=>?_) (λn=>?_);rw[n];rfl;rw[n];refine⟨.dat (ax _),.dat (aq _),?_⟩;simp only[HJ,Bool.or_self];refine LAtZ.stepF sW [] [] [] [1,3] (by kernel_rfl) (λk F A=>∃ i:Nat,F=frCr1 i/\A=hAu s (blV e) (roV b)/\i+k=b.length/\(∀r∈b.take i,r.length=256)/\b.any (λr=> !decide ((r.length:Int)=256))=(b.drop i).any (λr=> !decide ((r.length:Int)=256))) ?_ (k:=b.length) ⟨0,rfl,rfl,by omega,by simp,by simp⟩;rintro k F A ⟨i,rfl,rfl,z,t,f⟩;refine(EE _ _ s e b i).mpr ?_;rw[aG];refine Sp.intro (λh=>?_) (λh=>?_);have h:=odt h;have g:i<b.length:=by omega
 rw[ju g]at f;rw[bL g,af];refine⟨⟨by omega,h⟩,cG g,Sp.intro (λc=>?_) (λc=>?_)⟩;rw[f,c];rfl;refine⟨.dat (ax _),.dat (aq _),k-1,by omega,i+1,?_,rfl,by omega,?_,?_⟩;rw[aF (x:=(i:Int)+1) (by omega) (by omega)];rfl;intro r y;rw[HC g]at y;grind;rw[f,c];rfl;have h:=odf h;rw[nt (by omega)]at f;rw[Jo (by omega)]at t;rw[f];unfold outI;refine Sp.intro (λm=>?_) (λm=>?_);rw[m];rfl;rw[m];refine Sp.intro (λj=>?_) (λj=>?_);rw[j];rfl;rw[j];refine⟨.dat (ax _),.dat (aq _),Aa _ s e b q t (λc A=>?_) (λc A=>?_)⟩;rw[c];rfl;rw[c];rfl
theorem BI:∀ args A p v A',bg caP caX args A=some (p,v,A')->PH p->CallAt env 27 args A v A':=dh ai am (fn:=f27) rfl λargs v h a=>by unfold caX at h;split at h;rename_i u;obtain⟨c,b⟩:WfV u:=a;grind [osI,sQ,xz,fH];cases h
structure OkA (a:AU):Prop where
 wf:WfA a
 n0:0<a.2.2.length
 n1:a.2.2.length<=300
 acc:a.2.1.length=a.2.2.length
 row:∀ r∈a.2.2,r.length=256
 st:0<=a.1/\a.1<a.2.2.length
 ent:∀ r∈a.2.2,∀x∈r,0<=x/\x<a.2.2.length
theorem vx{n x:Int}(h:outI n x=false):0<=x/\x<n:=by grind [outI,II,J0]
theorem dq{a:AU}(m:WfA a)(h:chkA a=0):OkA a:=by
 obtain⟨s,g,b⟩:=a;unfold chkA at h;dsimp only at h;cases f:decide (300<(b.length:Int))with
 |true=>rw[f]at h;cases h
 |false=>
 rw[f]at h;cases e:decide ((b.length:Int)=0)|| !decide ((g.length:Int)=b.length)with
 |true=>rw[e]at h;cases h
 |false=>
 rw[e]at h;cases d:b.any (λr=> !decide ((r.length:Int)=256))with
 |true=>rw[d]at h;cases h
 |false=>
 rw[d]at h;cases c:outI b.length s||b.any (outR b.length)with
 |true=>rw[c]at h;cases h
 |false=>simp only[II,J0,Jr,HL]at f e c;have o:=List.any_eq_false.1 d;refine⟨m,by dsimp only;omega,by dsimp only;omega,by dsimp only;omega,λr j=>?_,vx c.1,λr j x k=>?_⟩;grind;have:=List.any_eq_false.1 c.2 r j;unfold outR at this;have n:=List.any_eq_false.1 (Bool.eq_false_iff.2 this) x k;exact vx (Bool.eq_false_iff.2 n)
abbrev _root_.Go.Iq:=@Int.eq_ofNat_of_zero_le
theorem gD{a :Type}{l:List a}{d: a}(h:i<l.length):l.getD i d=l[i]:=by grind
def stp(a:La)(q:Int)(b:Nat):Int:=(a.getD q.toNat []).getD b 0
def runI(a:La)(q:Int)(l:List UInt8):Int:=l.foldl (λq b=>stp a q b.toNat) q
theorem eY{a:AU}(h:OkA a){q:Int}(m:0<=q)(k:q<a.2.2.length){b:Nat}(j:b<256):0<=stp a.2.2 q b/\stp a.2.2 q b<a.2.2.length:=by
 have f:q.toNat<a.2.2.length:=by omega
 have d:a.2.2[q.toNat]∈a.2.2:=Hq f;have g:=h.row _ d;have c:b<a.2.2[q.toNat].length:=by omega
 have e:stp a.2.2 q b=a.2.2[q.toNat][b]:=by grind [stp,gD]
 rw[e];exact h.ent _ d _ (Hq c)
theorem jJ{a:AU}(h:OkA a){q:Int}(d:0<=q)(g:q<a.2.2.length){b:Nat}(f:b<256):
 (0<=q/\q<((roV a.2.2).length:Int))/\nth (roV a.2.2) q.toNat=some (dat 1 (ae (roV a.2.2) q))/\((ae (roV a.2.2) q).length=256)/\nth (ae (roV a.2.2) q) b=some (.int .i64 (aa (ae (roV a.2.2) q) (b:Int)))/\aa (ae (roV a.2.2) q) (b:Int)=stp a.2.2 q b:=by
 obtain⟨n,rfl⟩:=Iq d;have c:n<a.2.2.length:=by omega
 have e:=h.row _ (Hq c);grind [aG,bL,aA,D',cG,af,aL,stp,gD]
theorem xP{t:ByteArray}(h:i<t.data.toList.length):aY t (i:Int)=(t.data.toList[i].toNat:Int):=by unfold aY;rw[D',aP,Hr h]
theorem Cm(t:ByteArray):t.data.toList.length=t.size:=by simp
theorem He{a:AU}(h:OkA a)(t:ByteArray)(B:t.size<9223372036854775808):Walk env f66 [auV a,.string t] (.int .i64 (runI a.2.2 a.1 t.data.toList)):=by
 obtain⟨s,e,b⟩:=a;have j:=h.st;dsimp only at j;have C:=Cm t;refine eP Cb (d:=1) (HFi _ _) ((jAf_nf _ s e b t).mpr ⟨.dat (ax _),.dat (aq _),?_⟩);refine LAtZ.stepF Cb [] [] [] [1,2,5,10,11] (by kernel_rfl) (λk F A=>∃ (i:Nat) (q:Int),F=frAf t q i/\A=hAu s (blV e) (roV b)/\i+k=t.size/\(0<=q/\q<b.length)/\runI b s t.data.toList=runI b q (t.data.toList.drop i)) ?_ (k:=t.size) ⟨0,s,rfl,rfl,by omega,j,by simp⟩;rintro k F A ⟨i,q,rfl,rfl,o,f,g⟩;refine(E2 _ _ s e b t q i).mpr (Sp.intro (λc=>?_) (λc=>?_));have c:=odt c;have m:i<t.data.toList.length:=by omega
 have n:t.data.toList[i].toNat<256:=t.data.toList[i].toNat_lt;have z:(↑q.toNat:Int)=q:=by omega
 have y:(↑(Int.toNat (↑(t.data.toList[i].toNat):Int)):Int)=(t.data.toList[i].toNat:Int):=by omega
 rw[xP m,z,y,D'];obtain⟨w,v,u,r,p⟩:=jJ h f.1 f.2 n;refine⟨w,v,⟨by omega,c⟩,⟨by omega,by rw[u];omega⟩,r,.dat (ax _),.dat (aq _),k-1,by omega,i+1,stp b q t.data.toList[i].toNat,?_,rfl,by omega,eY h f.1 f.2 n,?_⟩;rw[p,aF (x:=(i:Int)+1) (by omega) (by omega)];rfl;rw[g,H7 m];rfl;have c:=odf c;rw[Is (by omega)]at g;show Value.int .i64 q=_;rw[g];rfl
def okV(v:Value):Prop:=v=auV (auD v)/\OkA (auD v)
theorem rd{a:AU}(h:OkA a):okV (auV a):=⟨by rw[fy],by rw[fy];exact h⟩
def afX:Lh->Lj
 | [v,.string t]=>(match auQ v with|some a=>some (.int .i64 (runI a.2.2 a.1 t.data.toList))|none=>none)
 |_=>none
def afP:Lh->Ll
 | [v,.string t]=>some (okV v/\t.size<9223372036854775808)
 |_=>none
theorem af_tab:∀ args A p v A',bg afP afX args A=some (p,v,A')->PH p->CallAt env 66 args A v A':=dh ai am (fn:=f66) rfl λargs v h c=>by
 unfold afX at h;split at h;· rename_i u t;obtain⟨⟨b,f⟩,e⟩:okV u/\t.size<9223372036854775808:=c;split at h;rotate_left;cases h;rename_i a d;cases h;rw[sQ b d];have:=He f t e;rw[<-b]at this;exact⟨HF.cons (by rw[b];exact fH _) (HF.cons (.scal rfl) HF.nil),this⟩
 cases h
def elB:El:=.of λ_ _ els i=>some (.bool (az els i))
def XAc:SX:=⟨env,[(24,bg caP caX),(66,bg afP afX)],elB,λ_=>.unroll 0⟩
theorem XAc_ok:XAc.Ok:=⟨ai,aD,am,.cons lL (.cons af_tab .nil)⟩
def jAc(K:KV)(s:Int)(b:Li)(a:La)(t:ByteArray):Prop:=aN XAc 1 f31 [.agg ⟨[.int .i64 s,dat 1 (blV b),dat 1 (roV a)]⟩,.string t] ⟨.leaf,0⟩ K
theorem _root_.Go.IE:type_of% @decide_eq_false:=@decide_eq_false
theorem _root_.Go.ID:type_of% @decide_eq_true:=@decide_eq_true
abbrev d_:=λa=>Value.agg (Array.mk a)
abbrev v_:=λa=>List.map deB (blV a)
abbrev V_:=λa b c=>d_ [Vi a,Vd 1 b,Vd 1 c]
abbrev O':=Value.bool false
abbrev KP:=λa=>Value.tuple (Array.mk a)
abbrev Lt:=λa b=>Value.bool (az a b)
theorem L3(K:KV)(s:Int)(a:Li)(b:La)(t:ByteArray):jAc K s a b t=(WfV (V_ s (blV a) (roV b))/\Sp (! decide (chkA (s,v_ a,n_ b)=0)) (K (KP [O',Vi (chkA (s,v_ a,n_ b))]) (AH.mk (Sg (h_ s a b)) 1)) ((okV (V_ s (blV a) (roV b))/\ByteArray.size t<9223372036854775808)/\Vd 1 (blV a)=Vd 1 (blV a)/\(0<=runI (n_ b) s t.data.toList/\runI (n_ b) s t.data.toList<j_ (blV a))/\nth (blV a) (G_ (o_ (runI (n_ b) s t.data.toList)))=some (Lt (blV a) (o_ (runI (n_ b) s t.data.toList)))/\K (KP [Lt (blV a) (o_ (runI (n_ b) s t.data.toList)),Vi 0]) (AH.mk (Sg (h_ s a b)) 10))):=by kernel_rfl
theorem jAc_nf:type_of%(by have h:=@L3;revert h;delta d_ h_ j_ n_ o_ v_ G_ V_ O' KP Lt;exact id):=@L3
def accI(a:AU)(t:ByteArray):Bool×Int:=bif decide (chkA a=0)then(a.2.1.getD (runI a.2.2 a.1 t.data.toList).toNat false,0)else(false,chkA a)
theorem uZ{a:AU}(h:OkA a):∀ (l:List UInt8) (q:Int),0<=q/\q<a.2.2.length->0<=runI a.2.2 q l/\runI a.2.2 q l<a.2.2.length
 | [],q,hq=>hq
 |b::l,q,hq=>uZ h l _ (eY h hq.1 hq.2 b.toNat_lt)
def acV(r:Bool×Int):Value:=.tuple ⟨[.bool r.1,.int .i64 r.2]⟩
theorem HF_ac(r:Bool×Int):HF (acV r):=.tuple (HF.cons (HFb _) (HF.cons (HFi _ _) HF.nil))
theorem Hg{a:AU}(g:WfA a)(t:ByteArray)(j:t.size<9223372036854775808):Walk env f31 [auV a,.string t] (acV (accI a t)):=by
 obtain⟨s,b,e⟩:=a;refine eP XAc_ok (d:=1) (HF_ac _) ((jAc_nf _ s b e t).mpr ?_);rw[bf,bd,aT];refine⟨gC (a:=(s,b,e)) g,Sp.intro (λc=>?_) (λc=>?_)⟩;have c:¬ chkA (s,b,e)=0:=by simpa using c
 show acV (false,_)=_;unfold accI;rw[IE c];rfl;have c:chkA (s,b,e)=0:=by simpa using c
 have f:=dq g c;have h:=uZ f t.data.toList s f.st;dsimp only at h;have m:=f.acc;dsimp only at m;have o:(↑(runI e s t.data.toList).toNat:Int)=runI e s t.data.toList:=by omega
 have k:(runI e s t.data.toList).toNat<b.length:=by omega
 have n:az (blV b) (runI e s t.data.toList)=b[(runI e s t.data.toList).toNat]:=by grind [bw]
 rw[o,n];refine⟨⟨rd f,j⟩,rfl,⟨h.1,by omega⟩,dj k,?_⟩;show acV (_,0)=_;grind [accI,ID,acV,gD]
def u8v(l:List UInt8):Lh:=l.map λb=>.int .u8 b.toNat
def elCo:El:={elT [18] []with app:=true,gm:=λ_=>true}
def XCo:SX:=⟨env,[],elCo,λ_=>.autoN [] [] [] [1,5,14,15,16]⟩
theorem B7:XCo.Ok:=⟨ai,aD,am,.nil⟩
def hCo(l:List UInt8):AH:=⟨Nd Lf (some (.gro (u8v l) [] 5)) Lf,1⟩
def frCo(c:Int)(a:La)(l:List UInt8)(i:Nat):T Value:=(Nd (Nd (Nd (Nd (Nd Lf (some (.int .i64 (roV a).length)) Lf) none Lf) none Lf) (some (.int .i64 c)) (Nd Lf (some (.slice (some ⟨0,0,none⟩) l.length (unk+3+1))) Lf)) none (Nd (Nd (Nd (Nd Lf (some (.int .i64 i)) Lf) none Lf) none Lf) none (Nd Lf none (Nd Lf (some (dat 1 (roV a))) Lf))))
def kFinCo(K:KV):KX:=finK XCo.E (f48.results).toList K
def jCo(K:KV)(s:Int)(b:Li)(a:La)(c:Int):Prop:=aN XCo 1 f48 [.agg ⟨[.int .i64 s,dat 1 (blV b),dat 1 (roV a)]⟩,.int .i64 c] ⟨.leaf,0⟩ K
def jCoL(K:KV)(b:KF)(a:La)(c:Int)(l:List UInt8)(i:Nat):Prop:=aI XCo 1 (Func.ntmps f48) ⟨.leaf,0⟩ (ay f48) [1,1,0,1,0] (kFinCo K) [] [] [] [1,5,14,15,16] b (frCo c a l i) (hCo l)
end
end Go.T9
