/- A part of the proof. -/
import Derived.Test.YthnclaleojkecaaGreatDoorY0
set_option linter.unusedVariables false
set_option linter.unusedSimpArgs false
set_option maxRecDepth 1000000
namespace Go.T9
open Go Go.AM Go.Proofs.Tryz
noncomputable section
abbrev AU:=Int×Li×La
variable {l:Le}{i:Nat}
def blV(l:Li):Lh:=l.map Value.bool
def inV(l:Le):Lh:=l.map (Value.int .i64)
def roV(l:La):Lh:=l.map λr=>dat 1 (inV r)
def auV(a:AU):Value:=.agg ⟨[.int .i64 a.1,dat 1 (blV a.2.1),dat 1 (roV a.2.2)]⟩
def deI:Value->Int
 | .int _ n=>n
 |_=>0
def deB:Value->Bool
 | .bool b=>b
 |_=>false
def deR:Value->Le
 | .func _ ⟨l⟩ _=>l.map deI
 |_=>[]
theorem dn(l:Le):(inV l).map deI=l:=by
 unfold inV;rw[GV];conv=>rhs;rw[<-Hx l]
 exact Gy λx _=>rfl
theorem cG(l:Li):(blV l).map deB=l:=by
 unfold blV;rw[GV];conv=>rhs;rw[<-Hx l]
 exact Gy λx _=>rfl
theorem cg(l:La):(roV l).map deR=l:=by
 unfold roV;rw[GV];conv=>rhs;rw[<-Hx l]
 exact Gy λx _=>dn x
theorem o8(l:Le):∀ x∈inV l,HF x:=λx a=>by obtain⟨n,_,rfl⟩:=F8.1 a;exact HFi _ _
theorem aP(l:Li):∀ x∈blV l,HF x:=λx a=>by obtain⟨n,_,rfl⟩:=F8.1 a;exact HFb _
theorem aM(l:La):∀ x∈roV l,HF x:=λx a=>by obtain⟨n,_,rfl⟩:=F8.1 a;exact .dat (o8 n)
theorem np(a:AU):HF (auV a):=.agg (HF.cons (HFi _ _) (HF.cons (.dat (aP _)) (HF.cons (.dat (aM _)) HF.nil)))
theorem aN(h:i<l.length):nth (inV l) i=some (.int .i64 l[i]):=by rw[aR];simp[inV,h]
theorem aq(h:i<l.length):aa (inV l) (i:Int)=l[i]:=by unfold aa;rw[F5,aN h]
theorem d9{l:Li}(h:i<l.length):nth (blV l) i=some (.bool l[i]):=by rw[aR];simp[blV,h]
theorem bH{l:Li}(h:i<l.length):aI (blV l) (i:Int)=l[i]:=by unfold aI;rw[F5,d9 h]
def ae(els:Lh)(i:Int):Lh:=match nth els i.toNat with|some (.func _ ⟨l⟩ _)=>l|_=>[]
theorem cK{l:La}(h:i<l.length):nth (roV l) i=some (dat 1 (inV l[i])):=by rw[aR];simp[roV,h]
theorem bL{l:La}(h:i<l.length):ae (roV l) (i:Int)=inV l[i]:=by unfold ae;rw[F5,cK h];rfl
theorem ah(l:Le):(inV l).length=l.length:=F7 _
theorem be(l:Li):(blV l).length=l.length:=F7 _
theorem aH(l:La):(roV l).length=l.length:=F7 _
def elI:El:=.of λ_ _ els i=>some (.int .i64 (aa els i))
def elRw:El:=.of λ_ _ els i=>some (.func (.yield 1) ⟨ae els i⟩ ⟨[]⟩)
def outI(n x:Int):Bool:=decide (x<0)||decide (n<=x)
def ixF{α :Type}(p: α ->Bool):List α ->Nat->Int
 | [],_=> -1
 |x::l,i=>bif p x then(i:Int)else ixF p l (i+1)
def XIx:SX:=⟨env,[],elI,λ_=>.autoN [] [] [] [0,1,7,8]⟩
theorem Bq:XIx.Ok:=⟨ak,aF,ap,.nil⟩
def hIx(n:Int):AH:=⟨Nd Lf (some (.cells [.int .i64 n] 3)) Lf,1⟩
def cOut(B:Nat):Value:=.func (.func 15) ⟨[]⟩ ⟨[.pointer (some ⟨B,0,none⟩)]⟩
def frIx(l:Le)(i:Nat):T Value:=(Nd (Nd (Nd (Nd Lf (some (.int .i64 (inV l).length)) Lf) none Lf) (some (cOut 0)) Lf) (some (dat 1 (inV l))) (Nd (Nd (Nd Lf (some (.int .i64 i)) Lf) none Lf) none Lf))
def kFinIx(K:KV):KX:=finK XIx.E (f31.results).toList K
def jIx(K:KV)(n:Int)(l:Le):Prop:=bp XIx 2 f31 [dat 1 (inV l),cOut 0] (hIx n) K
def jIxL(K:KV)(again:KF)(n:Int)(l:Le)(i:Nat):Prop:=aK XIx 2 (Func.ntmps f31) (hIx n) (aw f31) [1,0,1,0] (kFinIx K) [] [] [] [0,1,7,8] again (frIx l i) (hIx n)
theorem jIx_nf(K:KV)(n:Int)(l:Le):jIx K n l=(HF (Vd 1 (inV l))/\LAtZ XIx 2 f31.ntmps (hIx n) (aw f31) [1,0,1,0] (finK (SX.E XIx) f31.results.toList K) (Ns (Ns (No (Sg (Vi (↑(List.length (inV l)):Int))) Lf) (Value.func (Go.Fn.func 15) ⟨[]⟩ (Array.mk [Value.pointer (some ⟨0,0,none⟩)])) Lf) (Vd 1 (inV l)) (No (No (Sg (Vi 0)) Lf) Lf)) (AH.mk (Sg (AObj.cells [Vi n] 3)) 1)):=by kernel_rfl
abbrev h_:=Value.pointer (some ⟨0,0,none⟩)
abbrev j_{A:Type}:=λ(a:List A)=>(↑(List.length a):Int)
abbrev m_:=λa b=>AObj.cells a b
abbrev o_:=λa b c=>Value.func (Go.Fn.func a) ⟨b⟩ (Array.mk c)
abbrev q_{α:Type}(a:T α):T α:=No (No a Lf) Lf
abbrev y_:=λa=>Sg (Vi (IntKind.wrap .i64 a))
abbrev S_:=λa=>Sg (Vi a)
abbrev JR{α:Type}(a:T α)(b:α):T α:=Ns a b Lf
abbrev JV:=λa b=>Vi (aa (inV a) b)
abbrev J6{α:Type}(a:T α):T α:=No a Lf
abbrev J8:=λa b=>Sg (m_ a b)
theorem KY(K:KV)(again:KF)(n:Int)(l:Le)(i:Nat):jIxL K again n l i=(Sp (decide ((i:Int)<j_ (inV l))) ((0<=(i:Int)/\(i:Int)<j_ (inV l))/\nth (inV l) i=some (JV l i)/\Sp (decide (aa (inV l) (i:Int)<0)) (K (Vi i) (AH.mk (J8 [Vi n] 3) 1)) (Sp (decide (n<=aa (inV l) i)) (K (Vi i) (AH.mk (J8 [Vi n] 3) 1)) (HF (Vd 1 (inV l))/\again (Ns (JR (J6 (S_ (j_ (inV l)))) (o_ 15 [] [h_])) (Vd 1 (inV l)) (q_ (y_ ((i:Int)+1)))) (AH.mk (J8 [Vi n] 3) 1)))) (K (Vi (-1:Int)) (AH.mk (J8 [Vi n] 3) 1))):=by kernel_rfl
theorem Dw:type_of%(by have h:=@KY;revert h;delta h_ j_ m_ o_ q_ y_ S_ JR JV J6 J8;exact id):=@KY
theorem rx{a :Type}{p: a ->Bool}{l:List a}(h:i<l.length):ixF p (l.drop i) i=bif p l[i]then(i:Int)else ixF p (l.drop (i+1)) (i+1):=by rw[G0 h];rfl
theorem vT{a :Type}{p: a ->Bool}{l:List a}(h:l.length<=i):ixF p (l.drop i) i= -1:=by rw[Hj h];rfl
theorem ixF_neg{a :Type}{p: a ->Bool}:∀ {l:List a}{i:Nat},(0<=ixF p l i)↔l.any p=true
 | [],i=>by simp[ixF]
 | x::l,i=>by
  simp only[ixF,List.any_cons];cases b:p x with
  |true=>simp
  |false=>simpa using ixF_neg (l:=l)
theorem wO(Q:Value->AH->Prop)(n x:Int):endF env (hIx n) [] [] [] Q (.int .i64 x) (hIx n)=Q (.int .i64 x) (hIx n):=by kernel_rfl
theorem D6(n:Int)(l:Le)(g:l.length<9223372036854775808):WalkF env f31 [dat 1 (inV l),cOut 0] (hIx n) (.int .i64 (ixF (outI n) l 0)) (hIx n):=by
 refine aG Bq (d:=2) (ns:=[]) (zs:=[]) (ws:=[]) ((jIx_nf _ n l).mpr ⟨.dat (o8 l),?_⟩);refine LAtZ.stepF Bq [] [] [] [0,1,7,8] (by kernel_rfl) (λk F A=>∃ i:Nat,F=frIx l i/\A=hIx n/\i+k=l.length/\ixF (outI n) l 0=ixF (outI n) (l.drop i) i) ?_ (k:=l.length) ⟨0,rfl,rfl,by omega,by simp⟩;rintro k F A ⟨i,rfl,rfl,f,a⟩;refine(Dw _ _ n l i).mpr (Sp.intro (λh=>?_) (λh=>?_));have h:=odt h;rw[ah]at h;have b:i<l.length:=by omega
 rw[rx b]at a;refine⟨⟨by omega,by rw[ah];exact h⟩,by rw[aN b,aq b],?_⟩;rw[aq b];refine Sp.intro (λc=>?_) (λc=>?_);refine(wO _ n i).mpr ⟨?_,rfl⟩;rw[a];unfold outI;rw[c];rfl;refine Sp.intro (λe=>?_) (λe=>?_);refine(wO _ n i).mpr ⟨?_,rfl⟩;rw[a];unfold outI;rw[c,e];rfl;refine⟨.dat (o8 l),k-1,by omega,i+1,?_,rfl,by omega,?_⟩;rw[aD (x:=(i:Int)+1) (by omega) (by omega)];rfl;rw[a];unfold outI;rw[c,e];rfl;have h:=odf h;rw[ah]at h;refine(wO _ n (-1)).mpr ⟨?_,rfl⟩;rw[a,vT (by omega)]
def IsI(l:Lh):Prop:=l=inV (l.map deI)/\l.length<9223372036854775808
theorem isI_in(h:l.length<9223372036854775808):IsI (inV l):=⟨by rw[dn],by rw[ah];exact h⟩
def noAr:TypeId->Lk:=λ_=>none
def spIx:Lh->List AObj->Option (Ll×Value×List AObj)
 | [.func (.yield sz) ⟨l⟩ ⟨[]⟩,.func (.func g) ⟨[]⟩ ⟨[.pointer (some ⟨B,o,none⟩)]⟩],[.cells [.int .i64 n] e]=>
   bif (Nat.beq sz 1&&Nat.beq g 15)&&((Nat.beq B 0&&Nat.beq o 0)&&Nat.beq e 3)then some (some (IsI l),.int .i64 (ixF (outI n) (l.map deI) 0),[.cells [.int .i64 n] e])else none
 |_,_=>none
theorem Eo(n:Int):aW [.cells [.int .i64 n] 3]=hIx n:=by kernel_rfl
theorem ix_tab:∀ args A p v A',frmR noAr spIx args A=some (p,v,A')->PH p->CallAt env 31 args A v A':=bd ak (fn:=f31) rfl λargs c p v b h f=>by unfold spIx at h;split at h;rename_i d l g B o n e;cases a:(Nat.beq d 1&&Nat.beq g 15)&&((Nat.beq B 0&&Nat.beq o 0)&&Nat.beq e 3);rw[a]at h;cases h;rw[a]at h;simp only[D',osI,Ga]at h;obtain⟨rfl,rfl,rfl⟩:=h;simp only[f',Gj]at a;obtain⟨⟨rfl,rfl⟩,⟨rfl,rfl⟩,rfl⟩:=a;obtain⟨k,j⟩:IsI l:=f;have:=D6 n (l.map deI) (by simpa using j);rw[<-k]at this;rw[Eo];exact this;cases h
def XRx:SX:=⟨env,[(31,frmR noAr spIx)],elRw,λ_=>.autoN [] [] [] [0,1,7,8]⟩
theorem Bn:XRx.Ok:=⟨ak,aF,ap,.cons ix_tab .nil⟩
def hRx(n:Int):AH:=⟨Nd (Nd Lf (some (.cells [.int .i64 n] 3)) Lf) (some (.cells [cOut 1] 38)) Lf,2⟩
def cRow(B:Nat):Value:=.func (.func 17) ⟨[]⟩ ⟨[.pointer (some ⟨B,0,none⟩)]⟩
def frRx(l:La)(i:Nat):T Value:=(Nd (Nd (Nd (Nd Lf (some (.int .i64 (roV l).length)) Lf) none Lf) (some (cRow 0)) Lf) (some (dat 1 (roV l))) (Nd (Nd (Nd Lf (some (.int .i64 i)) Lf) none Lf) none Lf))
def kFinRx(K:KV):KX:=finK XRx.E (f30.results).toList K
def jRx(K:KV)(n:Int)(l:La):Prop:=bp XRx 4 f30 [dat 1 (roV l),cRow 0] (hRx n) K
def jRxL(K:KV)(again:KF)(n:Int)(l:La)(i:Nat):Prop:=aK XRx 4 (Func.ntmps f30) (hRx n) (aw f30) [1,0,1,0] (kFinRx K) [] [] [] [0,1,7,8] again (frRx l i) (hRx n)
abbrev c_:=λa b=>Value.pointer (some ⟨a,b,none⟩)
abbrev U':=λa=>Vd 1 (roV a)
abbrev JW:=λa=>j_ (roV a)
theorem KZ(K:KV)(n:Int)(l:La):jRx K n l=(HF (U' l)/\LAtZ XRx 4 f30.ntmps (hRx n) (aw f30) [1,0,1,0] (finK (SX.E XRx) f30.results.toList K) (Ns (JR (J6 (S_ (JW l))) (o_ 17 [] [h_])) (U' l) (q_ (S_ 0))) (AH.mk (JR (J8 [Vi n] 3) (m_ [o_ 15 [] [c_ 1 0]] 38)) 2)):=by kernel_rfl
theorem jRx_nf:type_of%(by have h:=@KZ;revert h;delta c_ h_ j_ m_ o_ q_ S_ U' JR JW J6 J8;exact id):=@KZ
abbrev Kc:=λa b=>ae (roV a) b
theorem K0(K:KV)(again:KF)(n:Int)(l:La)(i:Nat):jRxL K again n l i=(Sp (decide ((i:Int)<JW l)) ((0<=(i:Int)/\(i:Int)<JW l)/\nth (roV l) i=some (Vd 1 (Kc l i))/\HFs [Vd 1 (Kc l i)] (PH (Prod.fst (some (IsI (Kc l i)),Vi (ixF (outI n) (List.map deI (Kc l i)) 0),[m_ [Vi n] 3])))/\Sp (decide (0<=ixF (outI n) (List.map deI (Kc l i)) 0)) (K (Vi i) (AH.mk (JR (J8 [Vi n] 3) (m_ [o_ 15 [] [c_ 1 0]] 38)) 2)) (HF (U' l)/\again (Ns (JR (J6 (S_ (JW l))) (o_ 17 [] [h_])) (U' l) (q_ (y_ ((i:Int)+1)))) (AH.mk (JR (J8 [Vi n] 3) (m_ [o_ 15 [] [c_ 1 0]] 38)) 2))) (K (Vi (-1:Int)) (AH.mk (JR (J8 [Vi n] 3) (m_ [o_ 15 [] [c_ 1 0]] 38)) 2))):=by kernel_rfl
theorem Df:type_of%(by have h:=@K0;revert h;delta c_ h_ j_ m_ o_ q_ y_ S_ U' JR JW J6 J8 Kc;exact id):=@K0
theorem Bb(Q:Value->AH->Prop)(n x:Int):endF env (hRx n) [] [] [] Q (.int .i64 x) (hRx n)=Q (.int .i64 x) (hRx n):=by kernel_rfl
def outR(n:Int)(r:Le):Bool:=r.any (outI n)
theorem Cu(n:Int)(l:La)(m:l.length<9223372036854775808)(g:∀ r∈l,r.length<9223372036854775808):WalkF env f30 [dat 1 (roV l),cRow 0] (hRx n) (.int .i64 (ixF (outR n) l 0)) (hRx n):=by
 refine aG Bn (d:=4) (ns:=[]) (zs:=[]) (ws:=[]) ((jRx_nf _ n l).mpr ⟨.dat (aM l),?_⟩);refine LAtZ.stepF Bn [] [] [] [0,1,7,8] (by kernel_rfl) (λk F A=>∃ i:Nat,F=frRx l i/\A=hRx n/\i+k=l.length/\ixF (outR n) l 0=ixF (outR n) (l.drop i) i) ?_ (k:=l.length) ⟨0,rfl,rfl,by omega,by simp⟩;rintro k F A ⟨i,rfl,rfl,j,a⟩;refine(Df _ _ n l i).mpr (Sp.intro (λh=>?_) (λh=>?_));have h:=odt h;rw[aH]at h;have b:i<l.length:=by omega
 have e:=g l[i] (Gc b);rw[rx b]at a;rw[bL b,dn];refine⟨⟨by omega,by rw[aH];exact h⟩,cK b,⟨.dat (o8 _),isI_in e⟩,Sp.intro (λc=>?_) (λc=>?_)⟩;have c:outR n l[i]=true:=ixF_neg.1 (odt c);refine(Bb _ n i).mpr ⟨?_,rfl⟩;rw[a,c];rfl;have c:outR n l[i]=false:=by
  have:=λh=>odf c (ixF_neg.2 h);unfold outR;cases f:l[i].any (outI n)with
  |true=>exact absurd f this
  |false=>rfl
 refine⟨.dat (aM l),k-1,by omega,i+1,?_,rfl,by omega,?_⟩;rw[aD (x:=(i:Int)+1) (by omega) (by omega)];rfl;rw[a,c];rfl;have h:=odf h;rw[aH]at h;refine(Bb _ n (-1)).mpr ⟨?_,rfl⟩;rw[a,vT (by omega)]
def IsR(l:Lh):Prop:=l=roV (l.map deR)/\l.length<9223372036854775808/\∀ r∈l.map deR,r.length<9223372036854775808
theorem isR_ro{l:La}(h:l.length<9223372036854775808)(a:∀ r∈l,r.length<9223372036854775808):IsR (roV l):=⟨by rw[cg],by rw[aH];exact h,by rw[cg];exact a⟩
def spRx:Lh->List AObj->Option (Ll×Value×List AObj)
 | [.func (.yield sz) ⟨l⟩ ⟨[]⟩,.func (.func g) ⟨[]⟩ ⟨[.pointer (some ⟨B,o,none⟩)]⟩],[.cells [.func (.func g2) ⟨[]⟩ ⟨[.pointer (some ⟨B2,o2,none⟩)]⟩] e,.cells [.int .i64 n] e2]=>
   bif ((Nat.beq sz 1&&Nat.beq g 17)&&(Nat.beq B 0&&Nat.beq o 0))&&(((Nat.beq g2 15)&&(Nat.beq B2 1&&Nat.beq o2 0))&&(Nat.beq e 38&&Nat.beq e2 3))then some (some (IsR l),.int .i64 (ixF (outR n) (l.map deR) 0),[.cells [cOut 1] e,.cells [.int .i64 n] e2])else none
 |_,_=>none
theorem Ei(n:Int):aW [.cells [cOut 1] 38,.cells [.int .i64 n] 3]=hRx n:=by kernel_rfl
theorem rx_tab:∀ args A p v A',frmR noAr spRx args A=some (p,v,A')->PH p->CallAt env 30 args A v A':=bd ak (fn:=f30) rfl λargs c p v b h k=>by unfold spRx at h;split at h;rename_i f l g B o s u j e n t;cases a:((Nat.beq f 1&&Nat.beq g 17)&&(Nat.beq B 0&&Nat.beq o 0))&&(((Nat.beq s 15)&&(Nat.beq u 1&&Nat.beq j 0))&&(Nat.beq e 38&&Nat.beq t 3));rw[a]at h;cases h;rw[a]at h;simp only[D',osI,Ga]at h;obtain⟨rfl,rfl,rfl⟩:=h;simp only[f',Gj]at a;obtain⟨⟨⟨rfl,rfl⟩,rfl,rfl⟩,⟨rfl,rfl,rfl⟩,rfl,rfl⟩:=a;obtain⟨r,q,m⟩:IsR l:=k;have:=Cu n (l.map deR) (by simpa using q) m;rw[<-r]at this;have d:=Ei n;unfold cOut at d;unfold cOut;rw[d];exact this;cases h
def chkA(a:AU):Int:=bif decide (300<(a.2.2.length:Int))then 3 else bif decide ((a.2.2.length:Int)=0)|| !decide ((a.2.1.length:Int)=a.2.2.length)then 2 else bif a.2.2.any (λr=> !decide ((r.length:Int)=256))then 2 else bif outI a.2.2.length a.1||a.2.2.any (outR a.2.2.length)then 9 else 0
def WfA(a:AU):Prop:=a.2.1.length<9223372036854775808/\a.2.2.length<9223372036854775808/\∀ r∈a.2.2,r.length<9223372036854775808
def XCa:SX:=⟨env,[(30,frmR noAr spRx)],elRw,λ_=>.autoN [] [] [] [1,3,24,25,26]⟩
theorem By:XCa.Ok:=⟨ak,aF,ap,.cons rx_tab .nil⟩
def hCa(s n:Int)(acc nx:Lh):AH:=⟨Nd (Nd Lf (some (.cells [.int .i64 n] 3)) Lf) (some (.cells [.int .i64 s,dat 1 acc,dat 1 nx] 25)) Lf,2⟩
def frCa(l:La)(i:Nat):T Value:=(Nd (Nd (Nd Lf (some (.pointer (some ⟨1,0,none⟩))) Lf) (some (.pointer (some ⟨0,0,none⟩))) (Nd (Nd Lf none (Nd Lf (some (.int .i64 (roV l).length)) Lf)) none Lf)) none (Nd (Nd (Nd Lf none (Nd Lf (some (dat 1 (roV l))) Lf)) none Lf) none (Nd (Nd Lf none (Nd Lf (some (.int .i64 i)) Lf)) none Lf)))
def kFinCa(K:KV):KX:=finK XCa.E (f5.results).toList K
def jCa(K:KV)(s:Int)(acc:Li)(nx:La):Prop:=bp XCa 5 f5 [.agg ⟨[.int .i64 s,dat 1 (blV acc),dat 1 (roV nx)]⟩] ⟨.leaf,0⟩ K
def jCaL(K:KV)(again:KF)(s:Int)(acc:Li)(nx:La)(i:Nat):Prop:=aK XCa 5 (Func.ntmps f5) ⟨.leaf,0⟩ (aw f5) [1,1,1,0,1,0] (kFinCa K) [] [] [] [1,3,24,25,26] again (frCa nx i) (hCa s (roV nx).length (blV acc) (roV nx))
abbrev u_:=λa b c=>m_ [Vi a,Vd 1 (blV b),Vd 1 (roV c)] 25
abbrev Q_{α:Type}(a:T α):T α:=No (No Lf a) Lf
abbrev JK:=λa=>HF (Vd 1 (blV a))
abbrev Ko:=λa b=>Sg (c_ a b)
theorem K4(K:KV)(s:Int)(acc:Li)(nx:La):jCa K s acc nx=(Sp (decide (300<JW nx)) (K (Vi 3) (AH.mk (JR (J8 [Vi (JW nx)] 3) (u_ s acc nx)) 2)) (Sp (decide (JW nx=0)) (K (Vi 2) (AH.mk (JR (J8 [Vi (JW nx)] 3) (u_ s acc nx)) 2)) (Sp (! decide (j_ (blV acc)=JW nx)) (K (Vi 2) (AH.mk (JR (J8 [Vi (JW nx)] 3) (u_ s acc nx)) 2)) (HF (U' nx)/\JK acc/\HF (U' nx)/\LAtZ XCa 5 f5.ntmps (AH.mk Lf 0) (aw f5) [1,1,1,0,1,0] (finK (SX.E XCa) f5.results.toList K) (No (Ns (Ko 1 0) h_ (Q_ (S_ (JW nx)))) (No (Q_ (Sg (U' nx))) (Q_ (S_ 0)))) (AH.mk (JR (J8 [Vi (JW nx)] 3) (u_ s acc nx)) 2))))):=by kernel_rfl
theorem jCa_nf:type_of%(by have h:=@K4;revert h;delta c_ h_ j_ m_ u_ Q_ S_ U' JK JR JW J8 Ko;exact id):=@K4
abbrev r_:=λa=>List.map deR (roV a)
abbrev R_:=λa b c d=>AH.mk (Ns a b c) d
theorem K5(K:KV)(again:KF)(s:Int)(acc:Li)(nx:La)(i:Nat):jCaL K again s acc nx i=(Sp (decide ((i:Int)<JW nx)) ((0<=(i:Int)/\(i:Int)<JW nx)/\nth (roV nx) i=some (Vd 1 (Kc nx i))/\Sp (! decide (j_ (Kc nx i)=256)) (K (Vi 2) (AH.mk (JR (J8 [Vi (JW nx)] 3) (u_ s acc nx)) 2)) (HF (U' nx)/\JK acc/\HF (U' nx)/\again (No (Ns (Ko 1 0) h_ (Q_ (S_ (JW nx)))) (No (Q_ (Sg (U' nx))) (Q_ (y_ ((i:Int)+1))))) (AH.mk (JR (J8 [Vi (JW nx)] 3) (u_ s acc nx)) 2))) (Sp (decide (s<0)) (K (Vi 9) (R_ (J8 [Vi (JW nx)] 3) (u_ s acc nx) (J8 [o_ 15 [] [c_ 1 0]] 38) 3)) (Sp (decide (JW nx<=s)) (K (Vi 9) (R_ (J8 [Vi (JW nx)] 3) (u_ s acc nx) (J8 [o_ 15 [] [c_ 1 0]] 38) 3)) (HFs [U' nx] (PH (Prod.fst (some (IsR (roV nx)),Vi (ixF (outR (JW nx)) (r_ nx) 0),[m_ [o_ 15 [] [c_ 1 0]] 38,m_ [Vi (JW nx)] 3])))/\Sp (decide (0<=ixF (outR (JW nx)) (r_ nx) 0)) (K (Vi 9) (R_ (J8 [Vi (JW nx)] 3) (u_ s acc nx) (J8 [o_ 15 [] [c_ 1 0]] 38) 3)) (K (Vi 0) (R_ (J8 [Vi (JW nx)] 3) (u_ s acc nx) (J8 [o_ 15 [] [c_ 1 0]] 38) 3)))))):=by kernel_rfl
theorem DM:type_of%(by have h:=@K5;revert h;delta c_ h_ j_ m_ o_ r_ u_ y_ Q_ R_ S_ U' JK JR JW J8 Kc Ko;exact id):=@K5
theorem jB{X:SX}(m:X.Ok){d:Nat}{fn:Func}{args:Lh}{v:Value}(j:HF v)(h:bp X d fn args ⟨.leaf,0⟩ (y9 (λa=>a=v) (λa o=>Frz o a v))):Walk X.E fn args v:=by unfold bp at h;split at h;rename_i c k;split at h;rename_i F n;cases e:Nat.ble args.length fn.ntmps;rw[e]at h;exact h.elim;rw[e]at h;refine⟨c,F,k,e,n,(jh m (d:=d) h).mono λp r s q=>?_⟩;obtain⟨g,a,f,b⟩:=fV q;refine⟨g,a,f,?_⟩;rcases y8 b with b|b;rw[b];exact .same j;exact b;exact h.elim;exact h.elim
theorem i7{a :Type}{p: a ->Bool}{l:List a}(h:i<l.length):(l.drop i).any p=(p l[i]||(l.drop (i+1)).any p):=by rw[G0 h];rfl
theorem ng{a :Type}{p: a ->Bool}{l:List a}(h:l.length<=i):(l.drop i).any p=false:=by rw[Hj h];rfl
theorem Fq{a:AU}(y:WfA a):Walk env f5 [auV a] (.int .i64 (chkA a)):=by
 obtain⟨s,e,b⟩:=a;obtain⟨v,u,t⟩:=y;dsimp only at v u t;refine jB By (d:=5) (HFi _ _) ((jCa_nf _ s e b).mpr ?_);rw[aH,be];unfold chkA;dsimp only;refine Sp.intro (λq=>?_) (λq=>?_);rw[q];rfl;rw[q];refine Sp.intro (λp=>?_) (λp=>?_);rw[p];rfl;rw[p];refine Sp.intro (λo=>?_) (λo=>?_);rw[o];rfl;rw[o];refine⟨.dat (aM _),.dat (aP _),.dat (aM _),?_⟩;simp only[Gs,Bool.or_self];refine LAtZ.stepF By [] [] [] [1,3,24,25,26] (by kernel_rfl) (λk F A=>∃ i:Nat,F=frCa b i/\A=hCa s (roV b).length (blV e) (roV b)/\i+k=b.length/\b.any (λr=> !decide ((r.length:Int)=256))=(b.drop i).any (λr=> !decide ((r.length:Int)=256))) ?_ (k:=b.length) ⟨0,by unfold frCa;rw[aH];rfl,by unfold hCa;rw[aH];rfl,by omega,by simp⟩;rintro k F A ⟨i,rfl,rfl,z,f⟩;refine(DM _ _ s e b i).mpr ?_;rw[aH];refine Sp.intro (λh=>?_) (λh=>?_);have h:=odt h;have g:i<b.length:=by omega
 rw[i7 g]at f;rw[bL g,ah];refine⟨⟨by omega,h⟩,cK g,Sp.intro (λc=>?_) (λc=>?_)⟩;rw[f,c];rfl;refine⟨.dat (aM _),.dat (aP _),.dat (aM _),k-1,by omega,i+1,?_,?_,by omega,?_⟩;rw[aD (x:=(i:Int)+1) (by omega) (by omega)];unfold frCa;rw[aH];rfl;rfl;rw[f,c];rfl;have h:=odf h;rw[ng (by omega)]at f;rw[f,cg];unfold outI;refine Sp.intro (λn=>?_) (λn=>?_);rw[n];rfl;rw[n];refine Sp.intro (λm=>?_) (λm=>?_);rw[m];rfl;rw[m];refine⟨⟨.dat (aM _),isR_ro u t⟩,Sp.intro (λj=>?_) (λj=>?_)⟩;rw[ixF_neg.1 (odt j)];rfl;have:b.any (outR b.length)=false:=by cases w:b.any (outR b.length);rfl;exact absurd (ixF_neg.2 w) (odf j)
 rw[this];rfl
def auD:Value->AU
 | .agg ⟨[.int _ s,.func _ ⟨bs⟩ _,.func _ ⟨rs⟩ _]⟩=>(s,bs.map deB,rs.map deR)
 |_=>(0,[],[])
theorem oY(a:AU):auD (auV a)=a:=by obtain⟨s,b,c⟩:=a;show(s,(blV b).map deB,(roV c).map deR)=_;rw[cG,cg]
def WfV(v:Value):Prop:=v=auV (auD v)/\WfA (auD v)
theorem ky{a:AU}(h:WfA a):WfV (auV a):=⟨by rw[oY],by rw[oY];exact h⟩
def auQ:Value->Option AU
 | .agg ⟨[.int .i64 s,.func (.yield 1) ⟨bs⟩ ⟨[]⟩,.func (.yield 1) ⟨rs⟩ ⟨[]⟩]⟩=>some (s,bs.map deB,rs.map deR)
 |_=>none
theorem kg{v:Value}{a:AU}(h:v=auV (auD v))(b:auQ v=some a):a=auD v:=by
 rw[h]at b;have:auQ (auV (auD v))=some (auD v):=by obtain⟨s,c,d⟩:=auD v;show some (s,(blV c).map deB,(roV d).map deR)=_;rw[cG,cg]
 rw[this]at b;exact(GM b).symm
def caX:Lh->Lj
 | [v]=>(match auQ v with|some a=>some (.int .i64 (chkA a))|none=>none)
 |_=>none
def caP:Lh->Ll
 | [v]=>some (WfV v)
 |_=>none
theorem sB:∀ args A p v A',bN caP caX args A=some (p,v,A')->PH p->CallAt env 5 args A v A':=de ak ap (fn:=f5) rfl λargs v h c=>by
 unfold caX at h;split at h;· rename_i u;obtain⟨b,e⟩:WfV u:=c;split at h;rotate_left;cases h;rename_i a d;cases h;rw[kg b d];have:=Fq e;rw[<-b]at this;exact⟨HF.cons (by rw[b];exact np _) HF.nil,this⟩
 cases h
def elT(rs bs:Lg):El:=.of λ_ t els i=>bif inL t rs then some (.func (.yield 1) ⟨ae els i⟩ ⟨[]⟩)else bif inL t bs then some (.bool (aI els i))else some (.int .i64 (aa els i))
def hAu(s:Int)(acc nx:Lh):AH:=⟨Nd Lf (some (.cells [.int .i64 s,dat 1 acc,dat 1 nx] 25)) Lf,1⟩
def XCr:SX:=⟨env,[],elT [33,62,72] [],λk=>.autoN [] [] [] (bif Nat.beq k 6 then [1,3]else bif Nat.beq k 13 then [1,4]else [1,4,5])⟩
theorem sH:XCr.Ok:=⟨ak,aF,ap,.nil⟩
def frCr1(i:Nat):T Value:=(Nd (Nd (Nd Lf (some (.int .i64 i)) Lf) (some (.pointer (some ⟨0,0,none⟩))) Lf) none Lf)
def zy(i:Nat):T Value:=(Nd (Nd Lf (some (.pointer (some ⟨0,0,none⟩))) Lf) none (Nd (Nd Lf (some (.int .i64 i)) Lf) none Lf))
def EP(i j:Nat):T Value:=(Nd (Nd Lf (some (.pointer (some ⟨0,0,none⟩))) (Nd Lf (some (.int .i64 j)) Lf)) none (Nd (Nd Lf (some (.int .i64 i)) Lf) none Lf))
abbrev fCr:Func:=f6
def kP(K:KV):KX:=finK XCr.E (fCr.results).toList K
def jCr(K:KV)(s:Int)(acc:Li)(nx:La):Prop:=bp XCr 1 f6 [.agg ⟨[.int .i64 s,dat 1 (blV acc),dat 1 (roV nx)]⟩] ⟨.leaf,0⟩ K
def jCr1(K:KV)(again:KF)(s:Int)(acc:Li)(nx:La)(i:Nat):Prop:=aK XCr 1 (Func.ntmps f6) ⟨.leaf,0⟩ (aw f6) [1,1,1,0,1,0] (kP K) [] [] [] [1,3] again (frCr1 i) (hAu s (blV acc) (roV nx))
def jCr2(K:KV)(again:KF)(s:Int)(acc:Li)(nx:La)(i:Nat):Prop:=aK XCr 1 (Func.ntmps f6) ⟨.leaf,0⟩ (aw f6) [1,1,1,1,1,0,1,0] (kP K) [] [] [] [1,4] again (zy i) (hAu s (blV acc) (roV nx))
def kCr2(K:KV)(again2:KF):KX:=stepF XCr 1 (Func.ntmps f6) ⟨.leaf,0⟩ (aw f6) [1,1,1,1,1,0,1,0] (kP K) [] [] [] [1,4] again2
def jCr3(K:KV)(again2 again:KF)(s:Int)(acc:Li)(nx:La)(i j:Nat):Prop:=aK XCr 1 (Func.ntmps f6) ⟨.leaf,0⟩ (am (subC [1,1,1,1,1,0,1,0] (aw f6))) [1,0,0,1,0] (kCr2 K again2) [] [] [] [1,4,5] again (EP i j) (hAu s (blV acc) (roV nx))
def XAf:SX:=⟨env,[],elT [17] [],λ_=>.autoN [] [] [] [1,2,5,10,11]⟩
theorem BB:XAf.Ok:=⟨ak,aF,ap,.nil⟩
def frAf(s:ByteArray)(q:Int)(i:Nat):T Value:=(Nd (Nd (Nd Lf none (Nd Lf (some (.int .i64 i)) Lf)) (some (.string s)) (Nd Lf (some (.int .i64 q)) Lf)) none (Nd Lf (some (.pointer (some ⟨0,0,none⟩))) (Nd (Nd Lf (some (.int .i64 s.size)) Lf) none Lf)))
def kFinAf(K:KV):KX:=finK XAf.E (f28.results).toList K
def jAf(K:KV)(s:Int)(acc:Li)(nx:La)(t:ByteArray):Prop:=bp XAf 1 f28 [.agg ⟨[.int .i64 s,dat 1 (blV acc),dat 1 (roV nx)]⟩,.string t] ⟨.leaf,0⟩ K
def jAfL(K:KV)(again:KF)(s:Int)(acc:Li)(nx:La)(t:ByteArray)(q:Int)(i:Nat):Prop:=aK XAf 1 (Func.ntmps f28) ⟨.leaf,0⟩ (aw f28) [1,1,0,1,0] (kFinAf K) [] [] [] [1,2,5,10,11] again (frAf t q i) (hAu s (blV acc) (roV nx))
def XRu:SX:=⟨env,[],elT [17] [],λ_=>.autoN [] [] [] [1,2,3,7]⟩
theorem Bo:XRu.Ok:=⟨ak,aF,ap,.nil⟩
def frRu(s:ByteArray)(q:Int)(i:Nat):T Value:=(Nd (Nd (Nd (Nd Lf (some (.int .i64 i)) Lf) (some (.pointer (some ⟨0,0,none⟩))) Lf) (some (.int .i64 q)) Lf) none (Nd Lf (some (.string s)) Lf))
def kFinRu(K:KV):KX:=finK XRu.E (f29.results).toList K
def jRu(K:KV)(s:Int)(acc:Li)(nx:La)(q:Int)(t:ByteArray):Prop:=bp XRu 1 f29 [.agg ⟨[.int .i64 s,dat 1 (blV acc),dat 1 (roV nx)]⟩,.int .i64 q,.string t] ⟨.leaf,0⟩ K
def jRuL(K:KV)(again:KF)(s:Int)(acc:Li)(nx:La)(t:ByteArray)(q:Int)(i:Nat):Prop:=aK XRu 1 (Func.ntmps f29) ⟨.leaf,0⟩ (aw f29) [1,0,1,0] (kFinRu K) [] [] [] [1,2,3,7] again (frRu t q i) (hAu s (blV acc) (roV nx))
abbrev _root_.Go.Gz:=@List.take_succ_eq_append_getElem
abbrev Kn:=λa b c d=>AH.mk (Sg (u_ a b c)) d
theorem K6(K:KV)(s:Int)(acc:Li)(nx:La):jCr K s acc nx=(Sp (decide (300<JW nx)) (K (Vi 3) (Kn s acc nx 1)) (Sp (decide (JW nx=0)) (K (Vi 2) (Kn s acc nx 1)) (Sp (! decide (j_ (blV acc)=JW nx)) (K (Vi 2) (Kn s acc nx 1)) (JK acc/\HF (U' nx)/\LAtZ XCr 1 f6.ntmps (AH.mk Lf 0) (aw f6) [1,1,1,0,1,0] (finK (SX.E XCr) f6.results.toList K) (J6 (Ns (S_ 0) h_ Lf)) (Kn s acc nx 1))))):=by kernel_rfl
theorem jCr_nf:type_of%(by have h:=@K6;revert h;delta h_ j_ m_ u_ S_ U' JK JW J6 Kn;exact id):=@K6
theorem K7(K:KV)(again:KF)(s:Int)(acc:Li)(nx:La)(i:Nat):jCr1 K again s acc nx i=(Sp (decide ((i:Int)<JW nx)) ((0<=(i:Int)/\(i:Int)<JW nx)/\nth (roV nx) i=some (Vd 1 (Kc nx i))/\Sp (! decide (j_ (Kc nx i)=256)) (K (Vi 2) (Kn s acc nx 1)) (JK acc/\HF (U' nx)/\again (J6 (Ns (y_ ((i:Int)+1)) h_ Lf)) (Kn s acc nx 1))) (Sp (decide (s<0)) (K (Vi 9) (Kn s acc nx 1)) (Sp (decide (JW nx<=s)) (K (Vi 9) (Kn s acc nx 1)) (JK acc/\HF (U' nx)/\LAtZ XCr 1 f6.ntmps (AH.mk Lf 0) (aw f6) [1,1,1,1,1,0,1,0] (kP K) (No (Sg h_) (J6 (S_ 0))) (Kn s acc nx 1))))):=by kernel_rfl
theorem DK:type_of%(by have h:=@K7;revert h;delta h_ j_ m_ u_ y_ S_ U' JK JW J6 Kc Kn;exact id):=@K7
theorem K8(K:KV)(a:KF)(s:Int)(acc:Li)(nx:La)(i:Nat):jCr2 K a s acc nx i=(Sp (decide ((i:Int)<JW nx)) (JK acc/\HF (U' nx)/\LAtZ XCr 1 f6.ntmps (AH.mk Lf 0) (am (subC [1,1,1,1,1,0,1,0] (aw f6))) [1,0,0,1,0] (stepF XCr 1 f6.ntmps (AH.mk Lf 0) (aw f6) [1,1,1,1,1,0,1,0] (kP K) [] [] [] [1,4] a) (No (Ns Lf h_ (S_ 0)) (J6 (S_ i))) (Kn s acc nx 1)) (K (Vi 0) (Kn s acc nx 1))):=by kernel_rfl
theorem DJ:type_of%(by have h:=@K8;revert h;delta h_ j_ m_ u_ S_ U' JK JW J6 Kn;exact id):=@K8
theorem K9(K:KV)(again2:KF)(again:KF)(s:Int)(acc:Li)(nx:La)(i j:Nat):jCr3 K again2 again s acc nx i j=(Sp (decide ((j:Int)<256)) ((0<=(i:Int)/\(i:Int)<JW nx)/\nth (roV nx) i=some (Vd 1 (Kc nx i))/\(0<=(j:Int)/\(j:Int)<j_ (Kc nx i))/\nth (Kc nx i) j=some (Vi (aa (Kc nx i) j))/\Sp (decide (aa (Kc nx i) (j:Int)<0)) (K (Vi 9) (Kn s acc nx 24)) ((0<=(i:Int)/\(i:Int)<JW nx)/\nth (roV nx) i=some (Vd 1 (Kc nx i))/\(0<=(j:Int)/\(j:Int)<j_ (Kc nx i))/\nth (Kc nx i) j=some (Vi (aa (Kc nx i) j))/\Sp (decide (JW nx<=aa (Kc nx i) j)) (K (Vi 9) (Kn s acc nx 24)) (JK acc/\HF (U' nx)/\again (No (Ns Lf h_ (y_ ((j:Int)+1))) (J6 (S_ i))) (Kn s acc nx 1)))) (JK acc/\HF (U' nx)/\again2 (No (Sg h_) (J6 (y_ ((i:Int)+1)))) (Kn s acc nx 1))):=by kernel_rfl
theorem DH:type_of%(by have h:=@K9;revert h;delta h_ j_ m_ u_ y_ S_ U' JK JW J6 Kc Kn;exact id):=@K9
theorem jAf_nf(K:KV)(s:Int)(acc:Li)(nx:La)(t:ByteArray):jAf K s acc nx t=(HF (Vd 1 (blV acc))/\HF (Vd 1 (roV nx))/\LAtZ XAf 1 f28.ntmps (AH.mk Lf 0) (aw f28) [1,1,0,1,0] (finK (SX.E XAf) f28.results.toList K) (No (Ns (No Lf (Sg (Vi 0))) (Vs t) (Sg (Vi s))) (Ns Lf (Value.pointer (some ⟨0,0,none⟩)) (No (Sg (Vi (↑(ByteArray.size t):Int))) Lf))) (AH.mk (Sg (AObj.cells [Vi s,Vd 1 (blV acc),Vd 1 (roV nx)] 25)) 1)):=by kernel_rfl
abbrev x_:=λa=>Int.toNat a
abbrev H_:=λ(a:Nat)=>(↑ a:Int)
abbrev V':=λa b=>ae (roV a) (H_ b)
abbrev Kk{α:Type}(a:T α):T α:=No Lf a
theorem Lm(K:KV)(again:KF)(s:Int)(acc:Li)(nx:La)(t:ByteArray)(q:Int)(i:Nat):jAfL K again s acc nx t q i=(Sp (decide ((i:Int)<H_ (ByteArray.size t))) ((0<=q/\q<JW nx)/\nth (roV nx) (x_ (H_ (x_ q)))=some (Vd 1 (V' nx (x_ q)))/\(0<=(i:Int)/\(i:Int)<H_ (ByteArray.size t))/\(0<=aS t i/\aS t (i:Int)<j_ (V' nx (x_ q)))/\nth (V' nx (x_ q)) (x_ (H_ (x_ (aS t i))))=some (Vi (aa (V' nx (x_ q)) (H_ (x_ (aS t i)))))/\JK acc/\HF (U' nx)/\again (No (Ns (Kk (y_ ((i:Int)+1))) (Vs t) (S_ (aa (V' nx (x_ q)) (H_ (x_ (aS t i)))))) (Ns Lf h_ (J6 (S_ (H_ (ByteArray.size t)))))) (Kn s acc nx 1)) (K (Vi q) (Kn s acc nx 1))):=by kernel_rfl
theorem D0:type_of%(by have h:=@Lm;revert h;delta h_ j_ m_ u_ x_ y_ H_ S_ U' V' JK JW J6 Kk Kn;exact id):=@Lm
theorem jRu_nf(K:KV)(s:Int)(acc:Li)(nx:La)(q:Int)(t:ByteArray):jRu K s acc nx q t=(HF (Vd 1 (blV acc))/\HF (Vd 1 (roV nx))/\LAtZ XRu 1 f29.ntmps (AH.mk Lf 0) (aw f29) [1,0,1,0] (finK (SX.E XRu) f29.results.toList K) (No (Ns (Ns (Sg (Vi 0)) (Value.pointer (some ⟨0,0,none⟩)) Lf) (Vi q) Lf) (Sg (Vs t))) (AH.mk (Sg (AObj.cells [Vi s,Vd 1 (blV acc),Vd 1 (roV nx)] 25)) 1)):=by kernel_rfl
theorem Ln(K:KV)(again:KF)(s:Int)(acc:Li)(nx:La)(t:ByteArray)(q:Int)(i:Nat):jRuL K again s acc nx t q i=(Sp (decide ((i:Int)<H_ (ByteArray.size t))) ((0<=q/\q<JW nx)/\nth (roV nx) (x_ (H_ (x_ q)))=some (Vd 1 (V' nx (x_ q)))/\(0<=(i:Int)/\(i:Int)<H_ (ByteArray.size t))/\(0<=aS t i/\aS t (i:Int)<j_ (V' nx (x_ q)))/\nth (V' nx (x_ q)) (x_ (H_ (x_ (aS t i))))=some (Vi (aa (V' nx (x_ q)) (H_ (x_ (aS t i)))))/\JK acc/\HF (U' nx)/\again (No (JR (Ns (y_ ((i:Int)+1)) h_ Lf) (Vi (aa (V' nx (x_ q)) (H_ (x_ (aS t i)))))) (Sg (Vs t))) (Kn s acc nx 1)) (K (Vi q) (Kn s acc nx 1))):=by kernel_rfl
theorem Dg:type_of%(by have h:=@Ln;revert h;delta h_ j_ m_ u_ x_ y_ H_ U' V' JK JR JW Kn;exact id):=@Ln
theorem zG(K:KV)(again2:KF)(s:Int)(acc:Li)(nx:La)(i:Nat)(d:i<nx.length)(o:nx.length<9223372036854775808)(g:nx[i].length=256)
 (f:outR nx.length nx[i]=true->∀ A,K (.int .i64 9) A) (n:outR nx.length nx[i]=false->again2 (zy (i+1)) (hAu s (blV acc) (roV nx))):
 LAtZ XCr 1 (Func.ntmps f6) ⟨.leaf,0⟩ (am (subC [1,1,1,1,1,0,1,0] (aw f6))) [1,0,0,1,0] (kCr2 K again2) (EP i 0) (hAu s (blV acc) (roV nx)):=by
 refine LAtZ.stepF sH [] [] [] [1,4,5] (by kernel_rfl) (λk F A=>∃ j:Nat,F=EP i j/\A=hAu s (blV acc) (roV nx)/\j+k=256/\outR nx.length nx[i]=(nx[i].drop j).any (outI nx.length)) ?_ (k:=256) ⟨0,rfl,rfl,by omega,by simp[outR]⟩;rintro k F A ⟨j,rfl,rfl,m,a⟩;refine(DH _ _ _ s acc nx i j).mpr ?_;rw[bL d,aH,ah];refine Sp.intro (λh=>?_) (λh=>?_);have h:=odt h;have b:j<nx[i].length:=by omega
 rw[i7 b]at a;rw[aq b];refine⟨⟨by omega,by omega⟩,cK d,⟨by omega,by omega⟩,aN b,Sp.intro (λc=>?_) (λc=>?_)⟩;exact f (by rw[a];unfold outI;rw[c];rfl) _;refine⟨⟨by omega,by omega⟩,cK d,⟨by omega,by omega⟩,aN b,Sp.intro (λe=>?_) (λe=>?_)⟩;exact f (by rw[a];unfold outI;rw[c,e];rfl) _;refine⟨.dat (aP _),.dat (aM _),k-1,by omega,j+1,?_,rfl,by omega,?_⟩;rw[aD (x:=(j:Int)+1) (by omega) (by omega)];rfl;rw[a];unfold outI;rw[c,e];rfl;have h:=odf h;rw[ng (by omega)]at a;refine⟨.dat (aP _),.dat (aM _),?_⟩;rw[aD (x:=(i:Int)+1) (by omega) (by omega)];exact n a
theorem zH(K:KV)(s:Int)(acc:Li)(nx:La)(e:nx.length<9223372036854775808)(b:∀ r∈nx,r.length=256)
 (g:nx.any (outR nx.length)=true->∀ A,K (.int .i64 9) A) (j:nx.any (outR nx.length)=false->∀ A,K (.int .i64 0) A):
 LAtZ XCr 1 (Func.ntmps f6) ⟨.leaf,0⟩ (aw f6) [1,1,1,1,1,0,1,0] (kP K) (zy 0) (hAu s (blV acc) (roV nx)):=by
 refine LAtZ.stepF sH [] [] [] [1,4] (by kernel_rfl) (λk F A=>∃ i:Nat,F=zy i/\A=hAu s (blV acc) (roV nx)/\i+k=nx.length/\nx.any (outR nx.length)=(nx.drop i).any (outR nx.length)) ?_ (k:=nx.length) ⟨0,rfl,rfl,by omega,by simp⟩;rintro k F A ⟨i,rfl,rfl,f,a⟩;refine(DJ _ _ s acc nx i).mpr ?_;rw[aH];refine Sp.intro (λh=>?_) (λh=>?_);have h:=odt h;have d:i<nx.length:=by omega
 rw[i7 d]at a;refine⟨.dat (aP _),.dat (aM _),zG K _ s acc nx i d e (b _ (Gc d)) (λc=>g (by rw[a,c];rfl)) λc=>⟨k-1,by omega,i+1,rfl,rfl,by omega,by rw[a,c];rfl⟩⟩;have h:=odf h;rw[ng (by omega)]at a;exact j a _
theorem Fj{a:AU}(y:WfA a):Walk env f6 [auV a] (.int .i64 (chkA a)):=by
 obtain⟨s,e,b⟩:=a;obtain⟨w,u,v⟩:=y;dsimp only at w u v;refine jB sH (d:=1) (HFi _ _) ((jCr_nf _ s e b).mpr ?_);rw[aH,be];unfold chkA;dsimp only;refine Sp.intro (λt=>?_) (λt=>?_);rw[t];rfl;rw[t];refine Sp.intro (λq=>?_) (λq=>?_);rw[q];rfl;rw[q];refine Sp.intro (λp=>?_) (λp=>?_);rw[p];rfl;rw[p];refine⟨.dat (aP _),.dat (aM _),?_⟩;simp only[Gs,Bool.or_self];refine LAtZ.stepF sH [] [] [] [1,3] (by kernel_rfl) (λk F A=>∃ i:Nat,F=frCr1 i/\A=hAu s (blV e) (roV b)/\i+k=b.length/\(∀r∈b.take i,r.length=256)/\b.any (λr=> !decide ((r.length:Int)=256))=(b.drop i).any (λr=> !decide ((r.length:Int)=256))) ?_ (k:=b.length) ⟨0,rfl,rfl,by omega,by simp,by simp⟩;rintro k F A ⟨i,rfl,rfl,z,m,g⟩;refine(DK _ _ s e b i).mpr ?_;rw[aH];refine Sp.intro (λh=>?_) (λh=>?_);have h:=odt h;have j:i<b.length:=by omega
 rw[i7 j]at g;rw[bL j,ah];refine⟨⟨by omega,h⟩,cK j,Sp.intro (λc=>?_) (λc=>?_)⟩;rw[g,c];rfl;refine⟨.dat (aP _),.dat (aM _),k-1,by omega,i+1,?_,rfl,by omega,?_,?_⟩;rw[aD (x:=(i:Int)+1) (by omega) (by omega)];rfl;intro r f;rw[Gz j]at f;rcases Gx.1 f with f|f;exact m r f;simp only[GF]at f;subst f;simp only[Ip,Gp]at c;omega;rw[g,c];rfl;have h:=odf h;rw[ng (by omega)]at g;rw[Ii (by omega)]at m;rw[g];unfold outI;refine Sp.intro (λo=>?_) (λo=>?_);rw[o];rfl;rw[o];refine Sp.intro (λn=>?_) (λn=>?_);rw[n];rfl;rw[n];refine⟨.dat (aP _),.dat (aM _),zH _ s e b u m (λc A=>?_) (λc A=>?_)⟩;rw[c];rfl;rw[c];rfl
theorem Bg:∀ args A p v A',bN caP caX args A=some (p,v,A')->PH p->CallAt env 6 args A v A':=de ak ap (fn:=f6) rfl λargs v h c=>by
 unfold caX at h;split at h;· rename_i u;obtain⟨b,e⟩:WfV u:=c;split at h;rotate_left;cases h;rename_i a d;cases h;rw[kg b d];have:=Fj e;rw[<-b]at this;exact⟨HF.cons (by rw[b];exact np _) HF.nil,this⟩
 cases h
structure OkA (a:AU):Prop where
 wf:WfA a
 n0:0<a.2.2.length
 n1:a.2.2.length<=300
 acc:a.2.1.length=a.2.2.length
 row:∀ r∈a.2.2,r.length=256
 st:0<=a.1/\a.1<a.2.2.length
 ent:∀ r∈a.2.2,∀x∈r,0<=x/\x<a.2.2.length
theorem vd{n x:Int}(h:outI n x=false):0<=x/\x<n:=by unfold outI at h;simp only[Hr,HO]at h;omega
theorem sw{a:AU}(n:WfA a)(h:chkA a=0):OkA a:=by
 obtain⟨s,k,b⟩:=a;unfold chkA at h;dsimp only at h;cases j:decide (300<(b.length:Int))with
 |true=>rw[j]at h;cases h
 |false=>
 rw[j]at h;cases g:decide ((b.length:Int)=0)|| !decide ((k.length:Int)=b.length)with
 |true=>rw[g]at h;cases h
 |false=>
 rw[g]at h;cases f:b.any (λr=> !decide ((r.length:Int)=256))with
 |true=>rw[f]at h;cases h
 |false=>
 rw[f]at h;cases c:outI b.length s||b.any (outR b.length)with
 |true=>rw[c]at h;cases h
 |false=>simp only[Hr,HO,Ip,Gp]at j g c;have e:=List.any_eq_false.1 f;refine⟨n,by dsimp only;omega,by dsimp only;omega,by dsimp only;omega,λr d=>?_,vd c.1,λr d x m=>?_⟩;have:=e r d;simp only[HY,HO,Classical.not_not]at this;omega;have:=List.any_eq_false.1 c.2 r d;unfold outR at this;have o:=List.any_eq_false.1 (Bool.eq_false_iff.2 this) x m;exact vd (Bool.eq_false_iff.2 o)
abbrev _root_.Go.Hz:=@Int.eq_ofNat_of_zero_le
theorem gD{a :Type}{l:List a}{d: a}(h:i<l.length):l.getD i d=l[i]:=by rw[List.getD_eq_getElem?_getD,FZ h];rfl
def stp(nx:La)(q:Int)(b:Nat):Int:=(nx.getD q.toNat []).getD b 0
def runI(nx:La)(q:Int)(l:List UInt8):Int:=l.foldl (λq b=>stp nx q b.toNat) q
theorem kA{a:AU}(h:OkA a){q:Int}(m:0<=q)(k:q<a.2.2.length){b:Nat}(j:b<256):0<=stp a.2.2 q b/\stp a.2.2 q b<a.2.2.length:=by
 have f:q.toNat<a.2.2.length:=by omega
 have d:a.2.2[q.toNat]∈a.2.2:=Gc f;have g:=h.row _ d;have c:b<a.2.2[q.toNat].length:=by omega
 have e:stp a.2.2 q b=a.2.2[q.toNat][b]:=by unfold stp;rw[gD f,gD c]
 rw[e];exact h.ent _ d _ (Gc c)
theorem pg{a:AU}(h:OkA a){q:Int}(e:0<=q)(g:q<a.2.2.length){b:Nat}(j:b<256):
 (0<=q/\q<((roV a.2.2).length:Int))/\nth (roV a.2.2) q.toNat=some (dat 1 (ae (roV a.2.2) q))/\((ae (roV a.2.2) q).length=256)/\nth (ae (roV a.2.2) q) b=some (.int .i64 (aa (ae (roV a.2.2) q) (b:Int)))/\aa (ae (roV a.2.2) q) (b:Int)=stp a.2.2 q b:=by
 obtain⟨n,rfl⟩:=Hz e;have d:n<a.2.2.length:=by omega
 have f:=h.row _ (Gc d);have c:b<a.2.2[n].length:=by omega
 rw[aH];rw[bL d,aq c];refine⟨⟨e,g⟩,by rw[F5];exact cK d,by rw[ah];exact f,aN c,?_⟩;unfold stp;rw[F5,gD d,gD c]
theorem oT{t:ByteArray}(h:i<t.data.toList.length):aS t (i:Int)=(t.data.toList[i].toNat:Int):=by unfold aS;rw[F5,aR,FZ h]
theorem uh(t:ByteArray):t.data.toList.length=t.size:=by simp
theorem FO{a:AU}(h:OkA a)(t:ByteArray)(B:t.size<9223372036854775808):Walk env f28 [auV a,.string t] (.int .i64 (runI a.2.2 a.1 t.data.toList)):=by
 obtain⟨s,e,b⟩:=a;have j:=h.st;dsimp only at j;have C:=uh t;refine jB BB (d:=1) (HFi _ _) ((jAf_nf _ s e b t).mpr ⟨.dat (aP _),.dat (aM _),?_⟩);refine LAtZ.stepF BB [] [] [] [1,2,5,10,11] (by kernel_rfl) (λk F A=>∃ (i:Nat) (q:Int),F=frAf t q i/\A=hAu s (blV e) (roV b)/\i+k=t.size/\(0<=q/\q<b.length)/\runI b s t.data.toList=runI b q (t.data.toList.drop i)) ?_ (k:=t.size) ⟨0,s,rfl,rfl,by omega,j,by simp⟩;rintro k F A ⟨i,q,rfl,rfl,o,f,g⟩;refine(D0 _ _ s e b t q i).mpr (Sp.intro (λc=>?_) (λc=>?_));have c:=odt c;have m:i<t.data.toList.length:=by omega
 have n:t.data.toList[i].toNat<256:=t.data.toList[i].toNat_lt;have z:(↑q.toNat:Int)=q:=by omega
 have y:(↑(Int.toNat (↑(t.data.toList[i].toNat):Int)):Int)=(t.data.toList[i].toNat:Int):=by omega
 rw[oT m,z,y,F5];obtain⟨w,v,u,r,p⟩:=pg h f.1 f.2 n;refine⟨w,v,⟨by omega,c⟩,⟨by omega,by rw[u];omega⟩,r,.dat (aP _),.dat (aM _),k-1,by omega,i+1,stp b q t.data.toList[i].toNat,?_,rfl,by omega,kA h f.1 f.2 n,?_⟩;rw[p,aD (x:=(i:Int)+1) (by omega) (by omega)];rfl;rw[g,G0 m];rfl;have c:=odf c;rw[Hj (by omega)]at g;show Value.int .i64 q=_;rw[g];rfl
theorem Cw{a:AU}(h:OkA a){b:Int}(o:0<=b/\b<a.2.2.length)(t:ByteArray)(C:t.size<9223372036854775808):Walk env f29 [auV a,.int .i64 b,.string t] (.int .i64 (runI a.2.2 b t.data.toList)):=by
 obtain⟨s,f,e⟩:=a;dsimp only at o;have D:=uh t;refine jB Bo (d:=1) (HFi _ _) ((jRu_nf _ s f e b t).mpr ⟨.dat (aP _),.dat (aM _),?_⟩);refine LAtZ.stepF Bo [] [] [] [1,2,3,7] (by kernel_rfl) (λk F A=>∃ (i:Nat) (q:Int),F=frRu t q i/\A=hAu s (blV f) (roV e)/\i+k=t.size/\(0<=q/\q<e.length)/\runI e b t.data.toList=runI e q (t.data.toList.drop i)) ?_ (k:=t.size) ⟨0,b,rfl,rfl,by omega,o,by simp⟩;rintro k F A ⟨i,q,rfl,rfl,p,g,j⟩;refine(Dg _ _ s f e t q i).mpr (Sp.intro (λc=>?_) (λc=>?_));have c:=odt c;have m:i<t.data.toList.length:=by omega
 have n:t.data.toList[i].toNat<256:=t.data.toList[i].toNat_lt;have B:(↑q.toNat:Int)=q:=by omega
 have z:(↑(Int.toNat (↑(t.data.toList[i].toNat):Int)):Int)=(t.data.toList[i].toNat:Int):=by omega
 rw[oT m,B,z,F5];obtain⟨y,w,v,u,r⟩:=pg h g.1 g.2 n;refine⟨y,w,⟨by omega,c⟩,⟨by omega,by rw[v];omega⟩,u,.dat (aP _),.dat (aM _),k-1,by omega,i+1,stp e q t.data.toList[i].toNat,?_,rfl,by omega,kA h g.1 g.2 n,?_⟩;rw[r,aD (x:=(i:Int)+1) (by omega) (by omega)];rfl;rw[j,G0 m];rfl;have c:=odf c;rw[Hj (by omega)]at j;show Value.int .i64 q=_;rw[j];rfl
def okV(v:Value):Prop:=v=auV (auD v)/\OkA (auD v)
theorem Ay{a:AU}(h:OkA a):okV (auV a):=⟨by rw[oY],by rw[oY];exact h⟩
def afX:Lh->Lj
 | [v,.string t]=>(match auQ v with|some a=>some (.int .i64 (runI a.2.2 a.1 t.data.toList))|none=>none)
 |_=>none
def afP:Lh->Ll
 | [v,.string t]=>some (okV v/\t.size<9223372036854775808)
 |_=>none
theorem xJ:∀ args A p v A',bN afP afX args A=some (p,v,A')->PH p->CallAt env 28 args A v A':=de ak ap (fn:=f28) rfl λargs v h c=>by
 unfold afX at h;split at h;· rename_i u t;obtain⟨⟨b,f⟩,e⟩:okV u/\t.size<9223372036854775808:=c;split at h;rotate_left;cases h;rename_i a d;cases h;rw[kg b d];have:=FO f t e;rw[<-b]at this;exact⟨HF.cons (by rw[b];exact np _) (HF.cons (.scal rfl) HF.nil),this⟩
 cases h
def ruX:Lh->Lj
 | [v,.int .i64 q,.string t]=>(match auQ v with|some a=>some (.int .i64 (runI a.2.2 q t.data.toList))|none=>none)
 |_=>none
def ruP:Lh->Ll
 | [v,.int .i64 q,.string t]=>some (okV v/\(0<=q/\q<(auD v).2.2.length)/\t.size<9223372036854775808)
 |_=>none
theorem ru_tab:∀ args A p v A',bN ruP ruX args A=some (p,v,A')->PH p->CallAt env 29 args A v A':=de ak ap (fn:=f29) rfl λargs v h c=>by
 unfold ruX at h;split at h;· rename_i u q t;obtain⟨⟨b,g⟩,f,e⟩:okV u/\(0<=q/\q<(auD u).2.2.length)/\t.size<9223372036854775808:=c;split at h;rotate_left;cases h;rename_i a d;cases h;rw[kg b d];have:=Cw g f t e;rw[<-b]at this;exact⟨HF.cons (by rw[b];exact np _) (HF.cons (HFi _ _) (HF.cons (.scal rfl) HF.nil)),this⟩
 cases h
def elB:El:=.of λ_ _ els i=>some (.bool (aI els i))
def XAc:SX:=⟨env,[(5,bN caP caX),(28,bN afP afX)],elB,λ_=>.unroll 0⟩
theorem XAc_ok:XAc.Ok:=⟨ak,aF,ap,.cons sB (.cons xJ .nil)⟩
def jAc(K:KV)(s:Int)(acc:Li)(nx:La)(t:ByteArray):Prop:=bp XAc 1 f27 [.agg ⟨[.int .i64 s,dat 1 (blV acc),dat 1 (roV nx)]⟩,.string t] ⟨.leaf,0⟩ K
abbrev _root_.Go.IR:=@decide_eq_false
abbrev f_:=λa=>Value.agg (Array.mk a)
abbrev w_:=λa=>List.map deB (blV a)
abbrev JF:=λa=>Vd 1 (blV a)
abbrev Km:=λa=>Value.tuple (Array.mk a)
abbrev KA:=Value.bool false
abbrev KE:=λa b=>Value.bool (aI a b)
theorem Lo(K:KV)(s:Int)(acc:Li)(nx:La)(t:ByteArray):jAc K s acc nx t=(WfV (f_ [Vi s,JF acc,U' nx])/\Sp (! decide (chkA (s,w_ acc,r_ nx)=0)) (K (Km [KA,Vi (chkA (s,w_ acc,r_ nx))]) (Kn s acc nx 1)) ((okV (f_ [Vi s,JF acc,U' nx])/\ByteArray.size t<9223372036854775808)/\Vd 1 (blV acc)=Vd 1 (blV acc)/\(0<=runI (r_ nx) s t.data.toList/\runI (r_ nx) s t.data.toList<j_ (blV acc))/\nth (blV acc) (x_ (H_ (x_ (runI (r_ nx) s t.data.toList))))=some (KE (blV acc) (H_ (x_ (runI (r_ nx) s t.data.toList))))/\K (Km [KE (blV acc) (H_ (x_ (runI (r_ nx) s t.data.toList))),Vi 0]) (Kn s acc nx 10))):=by kernel_rfl
theorem jAc_nf:type_of%(by have h:=@Lo;revert h;delta f_ j_ m_ r_ u_ w_ x_ H_ U' JF Km Kn KA KE;exact id):=@Lo
def accI(a:AU)(t:ByteArray):Bool×Int:=bif decide (chkA a=0)then(a.2.1.getD (runI a.2.2 a.1 t.data.toList).toNat false,0)else(false,chkA a)
theorem uI{a:AU}(h:OkA a):∀ (l:List UInt8) (q:Int),0<=q/\q<a.2.2.length->0<=runI a.2.2 q l/\runI a.2.2 q l<a.2.2.length
 | [],q,hq=>hq
 |b::l,q,hq=>uI h l _ (kA h hq.1 hq.2 b.toNat_lt)
def acV(r:Bool×Int):Value:=.tuple ⟨[.bool r.1,.int .i64 r.2]⟩
theorem HF_ac(r:Bool×Int):HF (acV r):=.tuple (HF.cons (HFb _) (HF.cons (HFi _ _) HF.nil))
theorem FV{a:AU}(h:WfA a)(t:ByteArray)(m:t.size<9223372036854775808):Walk env f27 [auV a,.string t] (acV (accI a t)):=by
 obtain⟨s,b,e⟩:=a;refine jB XAc_ok (d:=1) (HF_ac _) ((jAc_nf _ s b e t).mpr ?_);rw[cG,cg,be];refine⟨ky (a:=(s,b,e)) h,Sp.intro (λc=>?_) (λc=>?_)⟩;have c:¬ chkA (s,b,e)=0:=by simpa using c
 show acV (false,_)=_;unfold accI;rw[IR c];rfl;have c:chkA (s,b,e)=0:=by simpa using c
 have f:=sw h c;have j:=uI f t.data.toList s f.st;dsimp only at j;have n:=f.acc;dsimp only at n;have k:(↑(runI e s t.data.toList).toNat:Int)=runI e s t.data.toList:=by omega
 have g:(runI e s t.data.toList).toNat<b.length:=by omega
 have o:aI (blV b) (runI e s t.data.toList)=b[(runI e s t.data.toList).toNat]:=by have:=bH g;rw[k]at this;exact this
 rw[k,o];refine⟨⟨Ay f,m⟩,rfl,⟨j.1,by omega⟩,d9 g,?_⟩;show acV (_,0)=_;unfold accI;rw[decide_eq_true c];show _=acV (b.getD _ false,0);rw[gD g]
def u8v(l:List UInt8):Lh:=l.map λb=>.int .u8 b.toNat
def elCo:El:={elT [18] []with app:=true,gm:=λ_=>true}
def XCo:SX:=⟨env,[],elCo,λ_=>.autoN [] [] [] [1,5,14,15,16]⟩
theorem Bw:XCo.Ok:=⟨ak,aF,ap,.nil⟩
def hCo(l:List UInt8):AH:=⟨Nd Lf (some (.gro (u8v l) [] 5)) Lf,1⟩
def frCo(c:Int)(nx:La)(l:List UInt8)(i:Nat):T Value:=(Nd (Nd (Nd (Nd (Nd Lf (some (.int .i64 (roV nx).length)) Lf) none Lf) none Lf) (some (.int .i64 c)) (Nd Lf (some (.slice (some ⟨0,0,none⟩) l.length (unk+3+1))) Lf)) none (Nd (Nd (Nd (Nd Lf (some (.int .i64 i)) Lf) none Lf) none Lf) none (Nd Lf none (Nd Lf (some (dat 1 (roV nx))) Lf))))
def kFinCo(K:KV):KX:=finK XCo.E (f37.results).toList K
def jCo(K:KV)(s:Int)(acc:Li)(nx:La)(c:Int):Prop:=bp XCo 1 f37 [.agg ⟨[.int .i64 s,dat 1 (blV acc),dat 1 (roV nx)]⟩,.int .i64 c] ⟨.leaf,0⟩ K
def jCoL(K:KV)(again:KF)(nx:La)(c:Int)(l:List UInt8)(i:Nat):Prop:=aK XCo 1 (Func.ntmps f37) ⟨.leaf,0⟩ (aw f37) [1,1,0,1,0] (kFinCo K) [] [] [] [1,5,14,15,16] again (frCo c nx l i) (hCo l)
end
end Go.T9
