/- A part of the proof. -/
import Derived.Test.YtegefclhhjbfhaaGreatDoorY0
set_option linter.unusedVariables false
set_option linter.unusedSimpArgs false
set_option maxRecDepth 1000000
namespace Go.T9
open Go Go.AM Go.Proofs.Tryz
noncomputable section
abbrev AU:=Int×Li×La
variable {l:Le}{i:Nat}
def blV(l:Li):Lh:=l.map Value.bool
def inV(l:Le):Lh:=l.map (Value.int .i64)
def roV(l:La):Lh:=l.map λr=>dat 1 (inV r)
def auV(a:AU):Value:=.agg ⟨[.int .i64 a.1,dat 1 (blV a.2.1),dat 1 (roV a.2.2)]⟩
def deI:Value->Int
 | .int _ n=>n
 |_=>0
def deB:Value->Bool
 | .bool b=>b
 |_=>false
def deR:Value->Le
 | .func _ ⟨l⟩ _=>l.map deI
 |_=>[]
theorem cY(l:Le):(inV l).map deI=l:=by
 unfold inV;rw[Hl];conv=>rhs;rw[<-Il l]
 exact Ha λx _=>rfl
theorem aT(l:Li):(blV l).map deB=l:=by
 unfold blV;rw[Hl];conv=>rhs;rw[<-Il l]
 exact Ha λx _=>rfl
theorem aO(l:La):(roV l).map deR=l:=by
 unfold roV;rw[Hl];conv=>rhs;rw[<-Il l]
 exact Ha λx _=>cY x
theorem pi(l:Le):∀ x∈inV l,HF x:=λx a=>by obtain⟨n,_,rfl⟩:=GA.1 a;exact HFi _ _
theorem aG(l:Li):∀ x∈blV l,HF x:=λx a=>by obtain⟨n,_,rfl⟩:=GA.1 a;exact HFb _
theorem aC(l:La):∀ x∈roV l,HF x:=λx a=>by obtain⟨n,_,rfl⟩:=GA.1 a;exact .dat (pi n)
theorem iP(a:AU):HF (auV a):=.agg (HF.cons (HFi _ _) (HF.cons (.dat (aG _)) (HF.cons (.dat (aC _)) HF.nil)))
theorem bi(h:i<l.length):nth (inV l) i=some (.int .i64 l[i]):=by rw[aN];simp[inV,h]
theorem aK(h:i<l.length):aa (inV l) (i:Int)=l[i]:=by unfold aa;rw[Gz,bi h]
theorem fR{l:Li}(h:i<l.length):nth (blV l) i=some (.bool l[i]):=by rw[aN];simp[blV,h]
theorem cv{l:Li}(h:i<l.length):aH (blV l) (i:Int)=l[i]:=by unfold aH;rw[Gz,fR h]
def ah(els:Lh)(i:Int):Lh:=match nth els i.toNat with|some (.func _ ⟨l⟩ _)=>l|_=>[]
theorem gG{l:La}(h:i<l.length):nth (roV l) i=some (dat 1 (inV l[i])):=by rw[aN];simp[roV,h]
theorem dg{l:La}(h:i<l.length):ah (roV l) (i:Int)=inV l[i]:=by unfold ah;rw[Gz,gG h];rfl
theorem aj(l:Le):(inV l).length=l.length:=GB _
theorem bp(l:Li):(blV l).length=l.length:=GB _
theorem aP(l:La):(roV l).length=l.length:=GB _
def elI:El:=.of λ_ _ els i=>some (.int .i64 (aa els i))
def elRw:El:=.of λ_ _ els i=>some (.func (.yield 1) ⟨ah els i⟩ ⟨[]⟩)
def outI(n x:Int):Bool:=decide (x<0)||decide (n<=x)
def ixF{α :Type}(p: α ->Bool):List α ->Nat->Int
 | [],_=> -1
 |x::l,i=>bif p x then(i:Int)else ixF p l (i+1)
def XIx:SX:=⟨env,[],elI,λ_=>.autoN [] [] [] [0,1,7,8]⟩
theorem BI:XIx.Ok:=⟨ak,aA,an,.nil⟩
def hIx(n:Int):AH:=⟨Nd Lf (some (.cells [.int .i64 n] 3)) Lf,1⟩
def cOut(B:Nat):Value:=.func (.func 42) ⟨[]⟩ ⟨[.pointer (some ⟨B,0,none⟩)]⟩
def frIx(l:Le)(i:Nat):T Value:=(Nd (Nd (Nd (Nd Lf (some (.int .i64 (inV l).length)) Lf) none Lf) (some (cOut 0)) Lf) (some (dat 1 (inV l))) (Nd (Nd (Nd Lf (some (.int .i64 i)) Lf) none Lf) none Lf))
def kFinIx(K:KV):KX:=finK XIx.E (f75.results).toList K
def jIx(K:KV)(n:Int)(l:Le):Prop:=bc XIx 2 f75 [dat 1 (inV l),cOut 0] (hIx n) K
def jIxL(K:KV)(again:KF)(n:Int)(l:Le)(i:Nat):Prop:=bh XIx 2 (Func.ntmps f75) (hIx n) (au f75) [1,0,1,0] (kFinIx K) [] [] [] [0,1,7,8] again (frIx l i) (hIx n)
theorem jIx_nf(K:KV)(n:Int)(l:Le):jIx K n l=(HF (Vd 1 (inV l))/\LAtZ XIx 2 f75.ntmps (hIx n) (au f75) [1,0,1,0] (finK (SX.E XIx) f75.results.toList K) (Ns (Ns (No (Sg (Vi (↑(List.length (inV l)):Int))) Lf) (Value.func (Go.Fn.func 42) ⟨[]⟩ (Array.mk [Value.pointer (some ⟨0,0,none⟩)])) Lf) (Vd 1 (inV l)) (No (No (Sg (Vi 0)) Lf) Lf)) (AH.mk (Sg (AObj.cells [Vi n] 3)) 1)):=by kernel_rfl
abbrev m_:=Value.pointer (some ⟨0,0,none⟩)
abbrev p_{A:Type}:=λ(a:List A)=>(↑(List.length a):Int)
abbrev q_:=λa b c=>Value.func (Go.Fn.func a) ⟨b⟩ (Array.mk c)
abbrev r_:=λa b=>AObj.cells a b
abbrev t_{α:Type}(a:T α):T α:=No (No a Lf) Lf
abbrev z_:=λa=>Sg (Vi (IntKind.wrap .i64 a))
abbrev I_{α:Type}(a:α):T α:=No (Sg a) Lf
abbrev J5{α:Type}(a:T α)(b:α):T α:=Ns a b Lf
theorem Ke(K:KV)(again:KF)(n:Int)(l:Le)(i:Nat):jIxL K again n l i=(Sp (decide ((i:Int)<p_ (inV l))) ((0<=(i:Int)/\(i:Int)<p_ (inV l))/\nth (inV l) i=some (Vi (aa (inV l) i))/\Sp (decide (aa (inV l) (i:Int)<0)) (K (Vi i) (AH.mk (Sg (r_ [Vi n] 3)) 1)) (Sp (decide (n<=aa (inV l) i)) (K (Vi i) (AH.mk (Sg (r_ [Vi n] 3)) 1)) (HF (Vd 1 (inV l))/\again (Ns (J5 (I_ (Vi (p_ (inV l)))) (q_ 42 [] [m_])) (Vd 1 (inV l)) (t_ (z_ ((i:Int)+1)))) (AH.mk (Sg (r_ [Vi n] 3)) 1)))) (K (Vi (-1:Int)) (AH.mk (Sg (r_ [Vi n] 3)) 1))):=by kernel_rfl
theorem DJ:type_of%(by have h:=@Ke;revert h;delta m_ p_ q_ r_ t_ z_ I_ J5;exact id):=@Ke
theorem rH{a :Type}{p: a ->Bool}{l:List a}(h:i<l.length):ixF p (l.drop i) i=bif p l[i]then(i:Int)else ixF p (l.drop (i+1)) (i+1):=by rw[HC h];rfl
theorem v4{a :Type}{p: a ->Bool}{l:List a}(h:l.length<=i):ixF p (l.drop i) i= -1:=by rw[HZ h];rfl
theorem ixF_neg{a :Type}{p: a ->Bool}:∀ {l:List a}{i:Nat},(0<=ixF p l i)↔l.any p=true
 | [],i=>by simp[ixF]
 | x::l,i=>by
  simp only[ixF,List.any_cons];cases b:p x with
  |true=>simp
  |false=>simpa using ixF_neg (l:=l)
theorem xb(Q:Value->AH->Prop)(n x:Int):endF env (hIx n) [] [] [] Q (.int .i64 x) (hIx n)=Q (.int .i64 x) (hIx n):=by kernel_rfl
theorem Eo(n:Int)(l:Le)(g:l.length<9223372036854775808):WalkF env f75 [dat 1 (inV l),cOut 0] (hIx n) (.int .i64 (ixF (outI n) l 0)) (hIx n):=by
 refine aq BI (d:=2) (ns:=[]) (zs:=[]) (ws:=[]) ((jIx_nf _ n l).mpr ⟨.dat (pi l),?_⟩);refine LAtZ.stepF BI [] [] [] [0,1,7,8] (by kernel_rfl) (λk F A=>∃ i:Nat,F=frIx l i/\A=hIx n/\i+k=l.length/\ixF (outI n) l 0=ixF (outI n) (l.drop i) i) ?_ (k:=l.length) ⟨0,rfl,rfl,by omega,by simp⟩;rintro k F A ⟨i,rfl,rfl,f,a⟩;refine(DJ _ _ n l i).mpr (Sp.intro (λh=>?_) (λh=>?_));have h:=odt h;rw[aj]at h;have b:i<l.length:=by omega
 rw[rH b]at a;refine⟨⟨by omega,by rw[aj];exact h⟩,by rw[bi b,aK b],?_⟩;rw[aK b];refine Sp.intro (λc=>?_) (λc=>?_);refine(xb _ n i).mpr ⟨?_,rfl⟩;rw[a];unfold outI;rw[c];rfl;refine Sp.intro (λe=>?_) (λe=>?_);refine(xb _ n i).mpr ⟨?_,rfl⟩;rw[a];unfold outI;rw[c,e];rfl;refine⟨.dat (pi l),k-1,by omega,i+1,?_,rfl,by omega,?_⟩;rw[aM (x:=(i:Int)+1) (by omega) (by omega)];rfl;rw[a];unfold outI;rw[c,e];rfl;have h:=odf h;rw[aj]at h;refine(xb _ n (-1)).mpr ⟨?_,rfl⟩;rw[a,v4 (by omega)]
def IsI(l:Lh):Prop:=l=inV (l.map deI)/\l.length<9223372036854775808
theorem isI_in(h:l.length<9223372036854775808):IsI (inV l):=⟨by rw[cY],by rw[aj];exact h⟩
def noAr:TypeId->Lk:=λ_=>none
def spIx:Lh->List AObj->Option (Ll×Value×List AObj)
 | [.func (.yield sz) ⟨l⟩ ⟨[]⟩,.func (.func g) ⟨[]⟩ ⟨[.pointer (some ⟨B,o,none⟩)]⟩],[.cells [.int .i64 n] e]=>
   bif (Nat.beq sz 1&&Nat.beq g 42)&&((Nat.beq B 0&&Nat.beq o 0)&&Nat.beq e 3)then some (some (IsI l),.int .i64 (ixF (outI n) (l.map deI) 0),[.cells [.int .i64 n] e])else none
 |_,_=>none
theorem EF(n:Int):aS [.cells [.int .i64 n] 3]=hIx n:=by kernel_rfl
theorem ix_tab:∀ args A p v A',frmR noAr spIx args A=some (p,v,A')->PH p->CallAt env 75 args A v A':=aY ak (fn:=f75) rfl λargs c p v b h f=>by unfold spIx at h;split at h;rename_i d l g B o n e;cases a:(Nat.beq d 1&&Nat.beq g 42)&&((Nat.beq B 0&&Nat.beq o 0)&&Nat.beq e 3);rw[a]at h;cases h;rw[a]at h;simp only[C',osI,GC]at h;obtain⟨rfl,rfl,rfl⟩:=h;simp only[f',GL]at a;obtain⟨⟨rfl,rfl⟩,⟨rfl,rfl⟩,rfl⟩:=a;obtain⟨k,j⟩:IsI l:=f;have:=Eo n (l.map deI) (by simpa using j);rw[<-k]at this;rw[EF];exact this;cases h
def XRx:SX:=⟨env,[(75,frmR noAr spIx)],elRw,λ_=>.autoN [] [] [] [0,1,7,8]⟩
theorem BD:XRx.Ok:=⟨ak,aA,an,.cons ix_tab .nil⟩
def hRx(n:Int):AH:=⟨Nd (Nd Lf (some (.cells [.int .i64 n] 3)) Lf) (some (.cells [cOut 1] 71)) Lf,2⟩
def cRow(B:Nat):Value:=.func (.func 44) ⟨[]⟩ ⟨[.pointer (some ⟨B,0,none⟩)]⟩
def frRx(l:La)(i:Nat):T Value:=(Nd (Nd (Nd (Nd Lf (some (.int .i64 (roV l).length)) Lf) none Lf) (some (cRow 0)) Lf) (some (dat 1 (roV l))) (Nd (Nd (Nd Lf (some (.int .i64 i)) Lf) none Lf) none Lf))
def kFinRx(K:KV):KX:=finK XRx.E (f74.results).toList K
def jRx(K:KV)(n:Int)(l:La):Prop:=bc XRx 4 f74 [dat 1 (roV l),cRow 0] (hRx n) K
def jRxL(K:KV)(again:KF)(n:Int)(l:La)(i:Nat):Prop:=bh XRx 4 (Func.ntmps f74) (hRx n) (au f74) [1,0,1,0] (kFinRx K) [] [] [] [0,1,7,8] again (frRx l i) (hRx n)
abbrev f_:=λa b=>Value.pointer (some ⟨a,b,none⟩)
abbrev E_:=λa=>Vd 1 (roV a)
abbrev J9:=λa=>Sg (Vi a)
theorem Kf(K:KV)(n:Int)(l:La):jRx K n l=(HF (E_ l)/\LAtZ XRx 4 f74.ntmps (hRx n) (au f74) [1,0,1,0] (finK (SX.E XRx) f74.results.toList K) (Ns (J5 (I_ (Vi (p_ (roV l)))) (q_ 44 [] [m_])) (E_ l) (t_ (J9 0))) (AH.mk (J5 (Sg (r_ [Vi n] 3)) (r_ [q_ 42 [] [f_ 1 0]] 71)) 2)):=by kernel_rfl
theorem jRx_nf:type_of%(by have h:=@Kf;revert h;delta f_ m_ p_ q_ r_ t_ E_ I_ J5 J9;exact id):=@Kf
theorem Kg(K:KV)(again:KF)(n:Int)(l:La)(i:Nat):jRxL K again n l i=(Sp (decide ((i:Int)<p_ (roV l))) ((0<=(i:Int)/\(i:Int)<p_ (roV l))/\nth (roV l) i=some (Vd 1 (ah (roV l) i))/\HFs [Vd 1 (ah (roV l) i)] (PH (Prod.fst (some (IsI (ah (roV l) i)),Vi (ixF (outI n) (List.map deI (ah (roV l) i)) 0),[r_ [Vi n] 3])))/\Sp (decide (0<=ixF (outI n) (List.map deI (ah (roV l) i)) 0)) (K (Vi i) (AH.mk (J5 (Sg (r_ [Vi n] 3)) (r_ [q_ 42 [] [f_ 1 0]] 71)) 2)) (HF (E_ l)/\again (Ns (J5 (I_ (Vi (p_ (roV l)))) (q_ 44 [] [m_])) (E_ l) (t_ (z_ ((i:Int)+1)))) (AH.mk (J5 (Sg (r_ [Vi n] 3)) (r_ [q_ 42 [] [f_ 1 0]] 71)) 2))) (K (Vi (-1:Int)) (AH.mk (J5 (Sg (r_ [Vi n] 3)) (r_ [q_ 42 [] [f_ 1 0]] 71)) 2))):=by kernel_rfl
theorem Dv:type_of%(by have h:=@Kg;revert h;delta f_ m_ p_ q_ r_ t_ z_ E_ I_ J5;exact id):=@Kg
theorem Bq(Q:Value->AH->Prop)(n x:Int):endF env (hRx n) [] [] [] Q (.int .i64 x) (hRx n)=Q (.int .i64 x) (hRx n):=by kernel_rfl
def outR(n:Int)(r:Le):Bool:=r.any (outI n)
theorem CP(n:Int)(l:La)(m:l.length<9223372036854775808)(g:∀ r∈l,r.length<9223372036854775808):WalkF env f74 [dat 1 (roV l),cRow 0] (hRx n) (.int .i64 (ixF (outR n) l 0)) (hRx n):=by
 refine aq BD (d:=4) (ns:=[]) (zs:=[]) (ws:=[]) ((jRx_nf _ n l).mpr ⟨.dat (aC l),?_⟩);refine LAtZ.stepF BD [] [] [] [0,1,7,8] (by kernel_rfl) (λk F A=>∃ i:Nat,F=frRx l i/\A=hRx n/\i+k=l.length/\ixF (outR n) l 0=ixF (outR n) (l.drop i) i) ?_ (k:=l.length) ⟨0,rfl,rfl,by omega,by simp⟩;rintro k F A ⟨i,rfl,rfl,j,a⟩;refine(Dv _ _ n l i).mpr (Sp.intro (λh=>?_) (λh=>?_));have h:=odt h;rw[aP]at h;have b:i<l.length:=by omega
 have e:=g l[i] (GH b);rw[rH b]at a;rw[dg b,cY];refine⟨⟨by omega,by rw[aP];exact h⟩,gG b,⟨.dat (pi _),isI_in e⟩,Sp.intro (λc=>?_) (λc=>?_)⟩;have c:outR n l[i]=true:=ixF_neg.1 (odt c);refine(Bq _ n i).mpr ⟨?_,rfl⟩;rw[a,c];rfl;have c:outR n l[i]=false:=by
  have:=λh=>odf c (ixF_neg.2 h);unfold outR;cases f:l[i].any (outI n)with
  |true=>exact absurd f this
  |false=>rfl
 refine⟨.dat (aC l),k-1,by omega,i+1,?_,rfl,by omega,?_⟩;rw[aM (x:=(i:Int)+1) (by omega) (by omega)];rfl;rw[a,c];rfl;have h:=odf h;rw[aP]at h;refine(Bq _ n (-1)).mpr ⟨?_,rfl⟩;rw[a,v4 (by omega)]
def IsR(l:Lh):Prop:=l=roV (l.map deR)/\l.length<9223372036854775808/\∀ r∈l.map deR,r.length<9223372036854775808
theorem isR_ro{l:La}(h:l.length<9223372036854775808)(a:∀ r∈l,r.length<9223372036854775808):IsR (roV l):=⟨by rw[aO],by rw[aP];exact h,by rw[aO];exact a⟩
def spRx:Lh->List AObj->Option (Ll×Value×List AObj)
 | [.func (.yield sz) ⟨l⟩ ⟨[]⟩,.func (.func g) ⟨[]⟩ ⟨[.pointer (some ⟨B,o,none⟩)]⟩],[.cells [.func (.func g2) ⟨[]⟩ ⟨[.pointer (some ⟨B2,o2,none⟩)]⟩] e,.cells [.int .i64 n] e2]=>
   bif ((Nat.beq sz 1&&Nat.beq g 44)&&(Nat.beq B 0&&Nat.beq o 0))&&(((Nat.beq g2 42)&&(Nat.beq B2 1&&Nat.beq o2 0))&&(Nat.beq e 71&&Nat.beq e2 3))then some (some (IsR l),.int .i64 (ixF (outR n) (l.map deR) 0),[.cells [cOut 1] e,.cells [.int .i64 n] e2])else none
 |_,_=>none
theorem ED(n:Int):aS [.cells [cOut 1] 71,.cells [.int .i64 n] 3]=hRx n:=by kernel_rfl
theorem rx_tab:∀ args A p v A',frmR noAr spRx args A=some (p,v,A')->PH p->CallAt env 74 args A v A':=aY ak (fn:=f74) rfl λargs c p v b h k=>by unfold spRx at h;split at h;rename_i f l g B o s u j e n t;cases a:((Nat.beq f 1&&Nat.beq g 44)&&(Nat.beq B 0&&Nat.beq o 0))&&(((Nat.beq s 42)&&(Nat.beq u 1&&Nat.beq j 0))&&(Nat.beq e 71&&Nat.beq t 3));rw[a]at h;cases h;rw[a]at h;simp only[C',osI,GC]at h;obtain⟨rfl,rfl,rfl⟩:=h;simp only[f',GL]at a;obtain⟨⟨⟨rfl,rfl⟩,rfl,rfl⟩,⟨rfl,rfl,rfl⟩,rfl,rfl⟩:=a;obtain⟨r,q,m⟩:IsR l:=k;have:=CP n (l.map deR) (by simpa using q) m;rw[<-r]at this;have d:=ED n;unfold cOut at d;unfold cOut;rw[d];exact this;cases h
def chkA(a:AU):Int:=bif decide (300<(a.2.2.length:Int))then 3 else bif decide ((a.2.2.length:Int)=0)|| !decide ((a.2.1.length:Int)=a.2.2.length)then 2 else bif a.2.2.any (λr=> !decide ((r.length:Int)=256))then 2 else bif outI a.2.2.length a.1||a.2.2.any (outR a.2.2.length)then 9 else 0
def WfA(a:AU):Prop:=a.2.1.length<9223372036854775808/\a.2.2.length<9223372036854775808/\∀ r∈a.2.2,r.length<9223372036854775808
def XCa:SX:=⟨env,[(74,frmR noAr spRx)],elRw,λ_=>.autoN [] [] [] [1,3,24,25,26]⟩
theorem BO:XCa.Ok:=⟨ak,aA,an,.cons rx_tab .nil⟩
def hCa(s n:Int)(acc nx:Lh):AH:=⟨Nd (Nd Lf (some (.cells [.int .i64 n] 3)) Lf) (some (.cells [.int .i64 s,dat 1 acc,dat 1 nx] 25)) Lf,2⟩
def frCa(l:La)(i:Nat):T Value:=(Nd (Nd (Nd Lf (some (.pointer (some ⟨1,0,none⟩))) Lf) (some (.pointer (some ⟨0,0,none⟩))) (Nd (Nd Lf none (Nd Lf (some (.int .i64 (roV l).length)) Lf)) none Lf)) none (Nd (Nd (Nd Lf none (Nd Lf (some (dat 1 (roV l))) Lf)) none Lf) none (Nd (Nd Lf none (Nd Lf (some (.int .i64 i)) Lf)) none Lf)))
def kFinCa(K:KV):KX:=finK XCa.E (f24.results).toList K
def jCa(K:KV)(s:Int)(acc:Li)(nx:La):Prop:=bc XCa 5 f24 [.agg ⟨[.int .i64 s,dat 1 (blV acc),dat 1 (roV nx)]⟩] ⟨.leaf,0⟩ K
def jCaL(K:KV)(again:KF)(s:Int)(acc:Li)(nx:La)(i:Nat):Prop:=bh XCa 5 (Func.ntmps f24) ⟨.leaf,0⟩ (au f24) [1,1,1,0,1,0] (kFinCa K) [] [] [] [1,3,24,25,26] again (frCa nx i) (hCa s (roV nx).length (blV acc) (roV nx))
abbrev k_:=λa b c=>AObj.cells [Vi a,Vd 1 (blV b),Vd 1 (roV c)] 25
abbrev O_:=λa=>Vd 1 (blV a)
abbrev W_{α:Type}(a:T α):T α:=No (No Lf a) Lf
theorem Kh(K:KV)(s:Int)(acc:Li)(nx:La):jCa K s acc nx=(Sp (decide (300<p_ (roV nx))) (K (Vi 3) (AH.mk (J5 (Sg (r_ [Vi (p_ (roV nx))] 3)) (k_ s acc nx)) 2)) (Sp (decide (p_ (roV nx)=0)) (K (Vi 2) (AH.mk (J5 (Sg (r_ [Vi (p_ (roV nx))] 3)) (k_ s acc nx)) 2)) (Sp (! decide (p_ (blV acc)=p_ (roV nx))) (K (Vi 2) (AH.mk (J5 (Sg (r_ [Vi (p_ (roV nx))] 3)) (k_ s acc nx)) 2)) (HF (E_ nx)/\HF (O_ acc)/\HF (E_ nx)/\LAtZ XCa 5 f24.ntmps (AH.mk Lf 0) (au f24) [1,1,1,0,1,0] (finK (SX.E XCa) f24.results.toList K) (No (Ns (Sg (f_ 1 0)) m_ (W_ (J9 (p_ (roV nx))))) (No (W_ (Sg (E_ nx))) (W_ (J9 0)))) (AH.mk (J5 (Sg (r_ [Vi (p_ (roV nx))] 3)) (k_ s acc nx)) 2))))):=by kernel_rfl
theorem jCa_nf:type_of%(by have h:=@Kh;revert h;delta f_ k_ m_ p_ r_ E_ O_ W_ J5 J9;exact id):=@Kh
abbrev c_:=λa=>List.map deR (roV a)
abbrev V_:=λa b c d=>AH.mk (Ns a b c) d
theorem Ki(K:KV)(again:KF)(s:Int)(acc:Li)(nx:La)(i:Nat):jCaL K again s acc nx i=(Sp (decide ((i:Int)<p_ (roV nx))) ((0<=(i:Int)/\(i:Int)<p_ (roV nx))/\nth (roV nx) i=some (Vd 1 (ah (roV nx) i))/\Sp (! decide (p_ (ah (roV nx) i)=256)) (K (Vi 2) (AH.mk (J5 (Sg (r_ [Vi (p_ (roV nx))] 3)) (k_ s acc nx)) 2)) (HF (E_ nx)/\HF (O_ acc)/\HF (E_ nx)/\again (No (Ns (Sg (f_ 1 0)) m_ (W_ (J9 (p_ (roV nx))))) (No (W_ (Sg (E_ nx))) (W_ (z_ ((i:Int)+1))))) (AH.mk (J5 (Sg (r_ [Vi (p_ (roV nx))] 3)) (k_ s acc nx)) 2))) (Sp (decide (s<0)) (K (Vi 9) (V_ (Sg (r_ [Vi (p_ (roV nx))] 3)) (k_ s acc nx) (Sg (r_ [q_ 42 [] [f_ 1 0]] 71)) 3)) (Sp (decide (p_ (roV nx)<=s)) (K (Vi 9) (V_ (Sg (r_ [Vi (p_ (roV nx))] 3)) (k_ s acc nx) (Sg (r_ [q_ 42 [] [f_ 1 0]] 71)) 3)) (HFs [E_ nx] (PH (Prod.fst (some (IsR (roV nx)),Vi (ixF (outR (p_ (roV nx))) (c_ nx) 0),[r_ [q_ 42 [] [f_ 1 0]] 71,r_ [Vi (p_ (roV nx))] 3])))/\Sp (decide (0<=ixF (outR (p_ (roV nx))) (c_ nx) 0)) (K (Vi 9) (V_ (Sg (r_ [Vi (p_ (roV nx))] 3)) (k_ s acc nx) (Sg (r_ [q_ 42 [] [f_ 1 0]] 71)) 3)) (K (Vi 0) (V_ (Sg (r_ [Vi (p_ (roV nx))] 3)) (k_ s acc nx) (Sg (r_ [q_ 42 [] [f_ 1 0]] 71)) 3)))))):=by kernel_rfl
theorem DZ:type_of%(by have h:=@Ki;revert h;delta c_ f_ k_ m_ p_ q_ r_ z_ E_ O_ V_ W_ J5 J9;exact id):=@Ki
theorem dK{X:SX}(m:X.Ok){d:Nat}{fn:Func}{args:Lh}{v:Value}(j:HF v)(h:bc X d fn args ⟨.leaf,0⟩ (zj (λa=>a=v) (λa o=>Frz o a v))):Walk X.E fn args v:=by unfold bc at h;split at h;rename_i c k;split at h;rename_i F n;cases e:Nat.ble args.length fn.ntmps;rw[e]at h;exact h.elim;rw[e]at h;refine⟨c,F,k,e,n,(jI m (d:=d) h).mono λp r s q=>?_⟩;obtain⟨g,a,f,b⟩:=gq q;refine⟨g,a,f,?_⟩;rcases zi b with b|b;rw[b];exact .same j;exact b;exact h.elim;exact h.elim
theorem z9{a :Type}{p: a ->Bool}{l:List a}(h:i<l.length):(l.drop i).any p=(p l[i]||(l.drop (i+1)).any p):=by rw[HC h];rfl
theorem Gl{a :Type}{p: a ->Bool}{l:List a}(h:l.length<=i):(l.drop i).any p=false:=by rw[HZ h];rfl
theorem FO{a:AU}(y:WfA a):Walk env f24 [auV a] (.int .i64 (chkA a)):=by
 obtain⟨s,e,b⟩:=a;obtain⟨v,u,t⟩:=y;dsimp only at v u t;refine dK BO (d:=5) (HFi _ _) ((jCa_nf _ s e b).mpr ?_);rw[aP,bp];unfold chkA;dsimp only;refine Sp.intro (λq=>?_) (λq=>?_);rw[q];rfl;rw[q];refine Sp.intro (λp=>?_) (λp=>?_);rw[p];rfl;rw[p];refine Sp.intro (λo=>?_) (λo=>?_);rw[o];rfl;rw[o];refine⟨.dat (aC _),.dat (aG _),.dat (aC _),?_⟩;simp only[GT,Bool.or_self];refine LAtZ.stepF BO [] [] [] [1,3,24,25,26] (by kernel_rfl) (λk F A=>∃ i:Nat,F=frCa b i/\A=hCa s (roV b).length (blV e) (roV b)/\i+k=b.length/\b.any (λr=> !decide ((r.length:Int)=256))=(b.drop i).any (λr=> !decide ((r.length:Int)=256))) ?_ (k:=b.length) ⟨0,by unfold frCa;rw[aP];rfl,by unfold hCa;rw[aP];rfl,by omega,by simp⟩;rintro k F A ⟨i,rfl,rfl,z,f⟩;refine(DZ _ _ s e b i).mpr ?_;rw[aP];refine Sp.intro (λh=>?_) (λh=>?_);have h:=odt h;have g:i<b.length:=by omega
 rw[z9 g]at f;rw[dg g,aj];refine⟨⟨by omega,h⟩,gG g,Sp.intro (λc=>?_) (λc=>?_)⟩;rw[f,c];rfl;refine⟨.dat (aC _),.dat (aG _),.dat (aC _),k-1,by omega,i+1,?_,?_,by omega,?_⟩;rw[aM (x:=(i:Int)+1) (by omega) (by omega)];unfold frCa;rw[aP];rfl;rfl;rw[f,c];rfl;have h:=odf h;rw[Gl (by omega)]at f;rw[f,aO];unfold outI;refine Sp.intro (λn=>?_) (λn=>?_);rw[n];rfl;rw[n];refine Sp.intro (λm=>?_) (λm=>?_);rw[m];rfl;rw[m];refine⟨⟨.dat (aC _),isR_ro u t⟩,Sp.intro (λj=>?_) (λj=>?_)⟩;rw[ixF_neg.1 (odt j)];rfl;have:b.any (outR b.length)=false:=by cases w:b.any (outR b.length);rfl;exact absurd (ixF_neg.2 w) (odf j)
 rw[this];rfl
def auD:Value->AU
 | .agg ⟨[.int _ s,.func _ ⟨bs⟩ _,.func _ ⟨rs⟩ _]⟩=>(s,bs.map deB,rs.map deR)
 |_=>(0,[],[])
theorem pd(a:AU):auD (auV a)=a:=by obtain⟨s,b,c⟩:=a;show(s,(blV b).map deB,(roV c).map deR)=_;rw[aT,aO]
def WfV(v:Value):Prop:=v=auV (auD v)/\WfA (auD v)
theorem cy{a:AU}(h:WfA a):WfV (auV a):=⟨by rw[pd],by rw[pd];exact h⟩
def auQ:Value->Option AU
 | .agg ⟨[.int .i64 s,.func (.yield 1) ⟨bs⟩ ⟨[]⟩,.func (.yield 1) ⟨rs⟩ ⟨[]⟩]⟩=>some (s,bs.map deB,rs.map deR)
 |_=>none
theorem ic{v:Value}{a:AU}(h:v=auV (auD v))(b:auQ v=some a):a=auD v:=by
 rw[h]at b;have:auQ (auV (auD v))=some (auD v):=by obtain⟨s,c,d⟩:=auD v;show some (s,(blV c).map deB,(roV d).map deR)=_;rw[aT,aO]
 rw[this]at b;exact(Hk b).symm
def caX:Lh->Lj
 | [v]=>(match auQ v with|some a=>some (.int .i64 (chkA a))|none=>none)
 |_=>none
def caP:Lh->Ll
 | [v]=>some (WfV v)
 |_=>none
theorem kD:∀ args A p v A',bw caP caX args A=some (p,v,A')->PH p->CallAt env 24 args A v A':=de ak an (fn:=f24) rfl λargs v h c=>by
 unfold caX at h;split at h;· rename_i u;obtain⟨b,e⟩:WfV u:=c;split at h;rotate_left;cases h;rename_i a d;cases h;rw[ic b d];have:=FO e;rw[<-b]at this;exact⟨HF.cons (by rw[b];exact iP _) HF.nil,this⟩
 cases h
def elT(rs bs:Lg):El:=.of λ_ t els i=>bif inL t rs then some (.func (.yield 1) ⟨ah els i⟩ ⟨[]⟩)else bif inL t bs then some (.bool (aH els i))else some (.int .i64 (aa els i))
def hAu(s:Int)(acc nx:Lh):AH:=⟨Nd Lf (some (.cells [.int .i64 s,dat 1 acc,dat 1 nx] 25)) Lf,1⟩
def XAf:SX:=⟨env,[],elT [17] [],λ_=>.autoN [] [] [] [1,2,5,10,11]⟩
theorem BS:XAf.Ok:=⟨ak,aA,an,.nil⟩
def frAf(s:ByteArray)(q:Int)(i:Nat):T Value:=(Nd (Nd (Nd Lf none (Nd Lf (some (.int .i64 i)) Lf)) (some (.string s)) (Nd Lf (some (.int .i64 q)) Lf)) none (Nd Lf (some (.pointer (some ⟨0,0,none⟩))) (Nd (Nd Lf (some (.int .i64 s.size)) Lf) none Lf)))
def kFinAf(K:KV):KX:=finK XAf.E (f66.results).toList K
def jAf(K:KV)(s:Int)(acc:Li)(nx:La)(t:ByteArray):Prop:=bc XAf 1 f66 [.agg ⟨[.int .i64 s,dat 1 (blV acc),dat 1 (roV nx)]⟩,.string t] ⟨.leaf,0⟩ K
def jAfL(K:KV)(again:KF)(s:Int)(acc:Li)(nx:La)(t:ByteArray)(q:Int)(i:Nat):Prop:=bh XAf 1 (Func.ntmps f66) ⟨.leaf,0⟩ (au f66) [1,1,0,1,0] (kFinAf K) [] [] [] [1,2,5,10,11] again (frAf t q i) (hAu s (blV acc) (roV nx))
theorem jAf_nf(K:KV)(s:Int)(acc:Li)(nx:La)(t:ByteArray):jAf K s acc nx t=(HF (Vd 1 (blV acc))/\HF (Vd 1 (roV nx))/\LAtZ XAf 1 f66.ntmps (AH.mk Lf 0) (au f66) [1,1,0,1,0] (finK (SX.E XAf) f66.results.toList K) (No (Ns (No Lf (Sg (Vi 0))) (Vs t) (Sg (Vi s))) (Ns Lf (Value.pointer (some ⟨0,0,none⟩)) (No (Sg (Vi (↑(ByteArray.size t):Int))) Lf))) (AH.mk (Sg (AObj.cells [Vi s,Vd 1 (blV acc),Vd 1 (roV nx)] 25)) 1)):=by kernel_rfl
abbrev u_:=λ(a:Nat)=>(↑ a:Int)
abbrev v_:=λa=>Int.toNat a
abbrev P_:=λa b=>ah (roV a) (u_ b)
theorem Kj(K:KV)(again:KF)(s:Int)(acc:Li)(nx:La)(t:ByteArray)(q:Int)(i:Nat):jAfL K again s acc nx t q i=(Sp (decide ((i:Int)<u_ (ByteArray.size t))) ((0<=q/\q<p_ (roV nx))/\nth (roV nx) (v_ (u_ (v_ q)))=some (Vd 1 (P_ nx (v_ q)))/\(0<=(i:Int)/\(i:Int)<u_ (ByteArray.size t))/\(0<=bP t i/\bP t (i:Int)<p_ (P_ nx (v_ q)))/\nth (P_ nx (v_ q)) (v_ (u_ (v_ (bP t i))))=some (Vi (aa (P_ nx (v_ q)) (u_ (v_ (bP t i)))))/\HF (O_ acc)/\HF (E_ nx)/\again (No (Ns (No Lf (z_ ((i:Int)+1))) (Vs t) (J9 (aa (P_ nx (v_ q)) (u_ (v_ (bP t i)))))) (Ns Lf m_ (I_ (Vi (u_ (ByteArray.size t)))))) (AH.mk (Sg (k_ s acc nx)) 1)) (K (Vi q) (AH.mk (Sg (k_ s acc nx)) 1))):=by kernel_rfl
theorem Ej:type_of%(by have h:=@Kj;revert h;delta k_ m_ p_ u_ v_ z_ E_ I_ O_ P_ J9;exact id):=@Kj
structure OkA (a:AU):Prop where
 wf:WfA a
 n0:0<a.2.2.length
 n1:a.2.2.length<=300
 acc:a.2.1.length=a.2.2.length
 row:∀ r∈a.2.2,r.length=256
 st:0<=a.1/\a.1<a.2.2.length
 ent:∀ r∈a.2.2,∀x∈r,0<=x/\x<a.2.2.length
theorem vj{n x:Int}(h:outI n x=false):0<=x/\x<n:=by unfold outI at h;simp only[H4,Io]at h;omega
theorem hJ{a:AU}(n:WfA a)(h:chkA a=0):OkA a:=by
 obtain⟨s,k,b⟩:=a;unfold chkA at h;dsimp only at h;cases j:decide (300<(b.length:Int))with
 |true=>rw[j]at h;cases h
 |false=>
 rw[j]at h;cases g:decide ((b.length:Int)=0)|| !decide ((k.length:Int)=b.length)with
 |true=>rw[g]at h;cases h
 |false=>
 rw[g]at h;cases f:b.any (λr=> !decide ((r.length:Int)=256))with
 |true=>rw[f]at h;cases h
 |false=>
 rw[f]at h;cases c:outI b.length s||b.any (outR b.length)with
 |true=>rw[c]at h;cases h
 |false=>simp only[H4,Io,IX,GQ]at j g c;have e:=List.any_eq_false.1 f;refine⟨n,by dsimp only;omega,by dsimp only;omega,by dsimp only;omega,λr d=>?_,vj c.1,λr d x m=>?_⟩;have:=e r d;simp only[IH,Io,Classical.not_not]at this;omega;have:=List.any_eq_false.1 c.2 r d;unfold outR at this;have o:=List.any_eq_false.1 (Bool.eq_false_iff.2 this) x m;exact vj (Bool.eq_false_iff.2 o)
abbrev _root_.Go.Hu:=@Int.eq_ofNat_of_zero_le
theorem gD{a :Type}{l:List a}{d: a}(h:i<l.length):l.getD i d=l[i]:=by rw[List.getD_eq_getElem?_getD,E' h];rfl
def stp(nx:La)(q:Int)(b:Nat):Int:=(nx.getD q.toNat []).getD b 0
def runI(nx:La)(q:Int)(l:List UInt8):Int:=l.foldl (λq b=>stp nx q b.toNat) q
theorem eM{a:AU}(h:OkA a){q:Int}(m:0<=q)(k:q<a.2.2.length){b:Nat}(j:b<256):0<=stp a.2.2 q b/\stp a.2.2 q b<a.2.2.length:=by
 have f:q.toNat<a.2.2.length:=by omega
 have d:a.2.2[q.toNat]∈a.2.2:=GH f;have g:=h.row _ d;have c:b<a.2.2[q.toNat].length:=by omega
 have e:stp a.2.2 q b=a.2.2[q.toNat][b]:=by unfold stp;rw[gD f,gD c]
 rw[e];exact h.ent _ d _ (GH c)
theorem lZ{a:AU}(h:OkA a){q:Int}(e:0<=q)(g:q<a.2.2.length){b:Nat}(j:b<256):
 (0<=q/\q<((roV a.2.2).length:Int))/\nth (roV a.2.2) q.toNat=some (dat 1 (ah (roV a.2.2) q))/\((ah (roV a.2.2) q).length=256)/\nth (ah (roV a.2.2) q) b=some (.int .i64 (aa (ah (roV a.2.2) q) (b:Int)))/\aa (ah (roV a.2.2) q) (b:Int)=stp a.2.2 q b:=by
 obtain⟨n,rfl⟩:=Hu e;have d:n<a.2.2.length:=by omega
 have f:=h.row _ (GH d);have c:b<a.2.2[n].length:=by omega
 rw[aP];rw[dg d,aK c];refine⟨⟨e,g⟩,by rw[Gz];exact gG d,by rw[aj];exact f,bi c,?_⟩;unfold stp;rw[Gz,gD d,gD c]
theorem xz{t:ByteArray}(h:i<t.data.toList.length):bP t (i:Int)=(t.data.toList[i].toNat:Int):=by unfold bP;rw[Gz,aN,E' h]
theorem B9(t:ByteArray):t.data.toList.length=t.size:=by simp
theorem Gp{a:AU}(h:OkA a)(t:ByteArray)(B:t.size<9223372036854775808):Walk env f66 [auV a,.string t] (.int .i64 (runI a.2.2 a.1 t.data.toList)):=by
 obtain⟨s,e,b⟩:=a;have j:=h.st;dsimp only at j;have C:=B9 t;refine dK BS (d:=1) (HFi _ _) ((jAf_nf _ s e b t).mpr ⟨.dat (aG _),.dat (aC _),?_⟩);refine LAtZ.stepF BS [] [] [] [1,2,5,10,11] (by kernel_rfl) (λk F A=>∃ (i:Nat) (q:Int),F=frAf t q i/\A=hAu s (blV e) (roV b)/\i+k=t.size/\(0<=q/\q<b.length)/\runI b s t.data.toList=runI b q (t.data.toList.drop i)) ?_ (k:=t.size) ⟨0,s,rfl,rfl,by omega,j,by simp⟩;rintro k F A ⟨i,q,rfl,rfl,o,f,g⟩;refine(Ej _ _ s e b t q i).mpr (Sp.intro (λc=>?_) (λc=>?_));have c:=odt c;have m:i<t.data.toList.length:=by omega
 have n:t.data.toList[i].toNat<256:=t.data.toList[i].toNat_lt;have z:(↑q.toNat:Int)=q:=by omega
 have y:(↑(Int.toNat (↑(t.data.toList[i].toNat):Int)):Int)=(t.data.toList[i].toNat:Int):=by omega
 rw[xz m,z,y,Gz];obtain⟨w,v,u,r,p⟩:=lZ h f.1 f.2 n;refine⟨w,v,⟨by omega,c⟩,⟨by omega,by rw[u];omega⟩,r,.dat (aG _),.dat (aC _),k-1,by omega,i+1,stp b q t.data.toList[i].toNat,?_,rfl,by omega,eM h f.1 f.2 n,?_⟩;rw[p,aM (x:=(i:Int)+1) (by omega) (by omega)];rfl;rw[g,HC m];rfl;have c:=odf c;rw[HZ (by omega)]at g;show Value.int .i64 q=_;rw[g];rfl
def okV(v:Value):Prop:=v=auV (auD v)/\OkA (auD v)
theorem rd{a:AU}(h:OkA a):okV (auV a):=⟨by rw[pd],by rw[pd];exact h⟩
def afX:Lh->Lj
 | [v,.string t]=>(match auQ v with|some a=>some (.int .i64 (runI a.2.2 a.1 t.data.toList))|none=>none)
 |_=>none
def afP:Lh->Ll
 | [v,.string t]=>some (okV v/\t.size<9223372036854775808)
 |_=>none
theorem af_tab:∀ args A p v A',bw afP afX args A=some (p,v,A')->PH p->CallAt env 66 args A v A':=de ak an (fn:=f66) rfl λargs v h c=>by
 unfold afX at h;split at h;· rename_i u t;obtain⟨⟨b,f⟩,e⟩:okV u/\t.size<9223372036854775808:=c;split at h;rotate_left;cases h;rename_i a d;cases h;rw[ic b d];have:=Gp f t e;rw[<-b]at this;exact⟨HF.cons (by rw[b];exact iP _) (HF.cons (.scal rfl) HF.nil),this⟩
 cases h
def elB:El:=.of λ_ _ els i=>some (.bool (aH els i))
def XAc:SX:=⟨env,[(24,bw caP caX),(66,bw afP afX)],elB,λ_=>.unroll 0⟩
theorem XAc_ok:XAc.Ok:=⟨ak,aA,an,.cons kD (.cons af_tab .nil)⟩
def jAc(K:KV)(s:Int)(acc:Li)(nx:La)(t:ByteArray):Prop:=bc XAc 1 f31 [.agg ⟨[.int .i64 s,dat 1 (blV acc),dat 1 (roV nx)]⟩,.string t] ⟨.leaf,0⟩ K
abbrev _root_.Go.HW:=@decide_eq_false
abbrev g_:=λa=>List.map deB (blV a)
abbrev j_:=λa=>Value.agg (Array.mk a)
theorem Kk(K:KV)(s:Int)(acc:Li)(nx:La)(t:ByteArray):jAc K s acc nx t=(WfV (j_ [Vi s,O_ acc,E_ nx])/\Sp (! decide (chkA (s,g_ acc,c_ nx)=0)) (K (Value.tuple (Array.mk [Value.bool false,Vi (chkA (s,g_ acc,c_ nx))])) (AH.mk (Sg (k_ s acc nx)) 1)) ((okV (j_ [Vi s,O_ acc,E_ nx])/\ByteArray.size t<9223372036854775808)/\Vd 1 (blV acc)=Vd 1 (blV acc)/\(0<=runI (c_ nx) s t.data.toList/\runI (c_ nx) s t.data.toList<p_ (blV acc))/\nth (blV acc) (v_ (u_ (v_ (runI (c_ nx) s t.data.toList))))=some (Value.bool (aH (blV acc) (u_ (v_ (runI (c_ nx) s t.data.toList)))))/\K (Value.tuple (Array.mk [Value.bool (aH (blV acc) (u_ (v_ (runI (c_ nx) s t.data.toList)))),Vi 0])) (AH.mk (Sg (k_ s acc nx)) 10))):=by kernel_rfl
theorem jAc_nf:type_of%(by have h:=@Kk;revert h;delta c_ g_ j_ k_ p_ u_ v_ E_ O_;exact id):=@Kk
def accI(a:AU)(t:ByteArray):Bool×Int:=bif decide (chkA a=0)then(a.2.1.getD (runI a.2.2 a.1 t.data.toList).toNat false,0)else(false,chkA a)
theorem uJ{a:AU}(h:OkA a):∀ (l:List UInt8) (q:Int),0<=q/\q<a.2.2.length->0<=runI a.2.2 q l/\runI a.2.2 q l<a.2.2.length
 | [],q,hq=>hq
 |b::l,q,hq=>uJ h l _ (eM h hq.1 hq.2 b.toNat_lt)
def acV(r:Bool×Int):Value:=.tuple ⟨[.bool r.1,.int .i64 r.2]⟩
theorem HF_ac(r:Bool×Int):HF (acV r):=.tuple (HF.cons (HFb _) (HF.cons (HFi _ _) HF.nil))
theorem Gr{a:AU}(h:WfA a)(t:ByteArray)(m:t.size<9223372036854775808):Walk env f31 [auV a,.string t] (acV (accI a t)):=by
 obtain⟨s,b,e⟩:=a;refine dK XAc_ok (d:=1) (HF_ac _) ((jAc_nf _ s b e t).mpr ?_);rw[aT,aO,bp];refine⟨cy (a:=(s,b,e)) h,Sp.intro (λc=>?_) (λc=>?_)⟩;have c:¬ chkA (s,b,e)=0:=by simpa using c
 show acV (false,_)=_;unfold accI;rw[HW c];rfl;have c:chkA (s,b,e)=0:=by simpa using c
 have f:=hJ h c;have j:=uJ f t.data.toList s f.st;dsimp only at j;have n:=f.acc;dsimp only at n;have k:(↑(runI e s t.data.toList).toNat:Int)=runI e s t.data.toList:=by omega
 have g:(runI e s t.data.toList).toNat<b.length:=by omega
 have o:aH (blV b) (runI e s t.data.toList)=b[(runI e s t.data.toList).toNat]:=by have:=cv g;rw[k]at this;exact this
 rw[k,o];refine⟨⟨rd f,m⟩,rfl,⟨j.1,by omega⟩,fR g,?_⟩;show acV (_,0)=_;unfold accI;rw[decide_eq_true c];show _=acV (b.getD _ false,0);rw[gD g]
def u8v(l:List UInt8):Lh:=l.map λb=>.int .u8 b.toNat
def elCo:El:={elT [18] []with app:=true,gm:=λ_=>true}
def XCo:SX:=⟨env,[],elCo,λ_=>.autoN [] [] [] [1,5,14,15,16]⟩
theorem BN:XCo.Ok:=⟨ak,aA,an,.nil⟩
def hCo(l:List UInt8):AH:=⟨Nd Lf (some (.gro (u8v l) [] 5)) Lf,1⟩
def frCo(c:Int)(nx:La)(l:List UInt8)(i:Nat):T Value:=(Nd (Nd (Nd (Nd (Nd Lf (some (.int .i64 (roV nx).length)) Lf) none Lf) none Lf) (some (.int .i64 c)) (Nd Lf (some (.slice (some ⟨0,0,none⟩) l.length (unk+3+1))) Lf)) none (Nd (Nd (Nd (Nd Lf (some (.int .i64 i)) Lf) none Lf) none Lf) none (Nd Lf none (Nd Lf (some (dat 1 (roV nx))) Lf))))
def kFinCo(K:KV):KX:=finK XCo.E (f48.results).toList K
def jCo(K:KV)(s:Int)(acc:Li)(nx:La)(c:Int):Prop:=bc XCo 1 f48 [.agg ⟨[.int .i64 s,dat 1 (blV acc),dat 1 (roV nx)]⟩,.int .i64 c] ⟨.leaf,0⟩ K
def jCoL(K:KV)(again:KF)(nx:La)(c:Int)(l:List UInt8)(i:Nat):Prop:=bh XCo 1 (Func.ntmps f48) ⟨.leaf,0⟩ (au f48) [1,1,0,1,0] (kFinCo K) [] [] [] [1,5,14,15,16] again (frCo c nx l i) (hCo l)
end
end Go.T9
