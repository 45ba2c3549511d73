/- A part of the proof. -/
import Derived.Test.YtegefclhhjbfhaaGreatDoorX1
set_option linter.unusedVariables false
set_option linter.unusedSimpArgs false
set_option linter.unusedSectionVars false
set_option maxRecDepth 1000000
namespace Go.T9
open Go Go.AM Go.Proofs.Tryz
noncomputable section
theorem _root_.Go.HX:type_of% @List.take_length:=@List.take_length
abbrev W_:=λa=>Value.slice a 0 18446744073709551620
abbrev KA{α:Type}(a:α):T α:=No Lf (Sg a)
abbrev LC:=HF (Value.agg ⟨[]⟩)
theorem L4(K:KV)(s:Int)(b:Li)(a:La)(c:Int):jCo K s b a c=(((0:Int)<=(0:Int)/\0<=IntKind.wrap .i64 (2*KY a)/\IntKind.wrap .i64 (2*KY a)<=281474976710656/\1*Int.toNat (IntKind.wrap .i64 (2*KY a))<=281474976710656)/\LQ a/\LC/\LAtZ XCo 1 f48.ntmps (AH.mk Lf 0) (ay f48) [1,1,0,1,0] (finK (SX.E XCo) f48.results.toList K) (No (Ns (w_ (Kx (KY a))) (Vi c) (Sg (W_ (some ⟨0,0,none⟩)))) (No (w_ (Kx 0)) (KA (S_ a)))) (AH.mk (Sg (AObj.gro [] [] 5)) 1)):=by kernel_rfl
theorem jCo_nf:type_of%(by have h:=@L4;revert h;delta j_ w_ S_ W_ Kx KA KY LC LQ;exact id):=@L4
abbrev b_:=λa b=>Value.slice a b 18446744073709551620
abbrev l_:=λa b=>AObj.gro a [] b
abbrev A_:=λa=>Value.int .u8 a
abbrev Kt:=λa=>HF (d_ a)
abbrev Lu:=λa b=>Sg (l_ a b)
abbrev LA:=λa=>b_ (some ⟨0,0,none⟩) a
theorem L5(K:KV)(b:KF)(a:La)(c:Int)(l:List UInt8)(i:Nat):jCoL K b a c l i=(Sp (decide ((i:Int)<KY a)) ((0<=(i:Int)/\(i:Int)<KY a)/\nth (roV a) i=some (Vd 1 (ae (roV a) i))/\(0<=c/\c<j_ (ae (roV a) i))/\nth (ae (roV a) i) (G_ (o_ c))=some (Vi (aa (ae (roV a) i) (o_ c)))/\(0<=c/\c<j_ (ae (roV a) i))/\nth (ae (roV a) i) (G_ (o_ c))=some (Vi (aa (ae (roV a) i) (o_ c)))/\(List.all [A_ (IntKind.wrap .u8 (aa (ae (roV a) i) (o_ c))),A_ (IntKind.wrap .u8 (Int.fdiv (aa (ae (roV a) i) (o_ c)) 256))] cellv=true/\List.length l+0=List.length (u8v l)/\List.length l+(2:Nat)<=(70368744177664:Nat)/\(List.length l+2)*(1:Nat)<=(140737488355328:Nat))/\LQ a/\Kt (u8v l++[A_ (IntKind.wrap .u8 (aa (ae (roV a) i) (o_ c))),A_ (IntKind.wrap .u8 (Int.fdiv (aa (ae (roV a) i) (o_ c)) 256))])/\b (No (Ns (w_ (Kx (KY a))) (Vi c) (Sg (LA (List.length l+2)))) (No (w_ (x_ ((i:Int)+1))) (KA (S_ a)))) (AH.mk (Lu (u8v l++[A_ (IntKind.wrap .u8 (aa (ae (roV a) i) (o_ c))),A_ (IntKind.wrap .u8 (Int.fdiv (aa (ae (roV a) i) (o_ c)) 256))]) 5) 1)) (IsB (u8v l) 0 l.length/\K (Vs (av (u8L (u8v l) 0 l.length))) (AH.mk (Lu (u8v l) 5) 1))):=by kernel_rfl
theorem EG:type_of%(by have h:=@L5;revert h;delta b_ d_ j_ l_ o_ w_ x_ A_ G_ S_ Kt Kx KA KY Lu LA LQ;exact id):=@L5
theorem uB{x:Int}(h:0<=x):IntKind.u8.wrap x=((UInt8.ofNat x.toNat).toNat:Int):=by
 have c:(2:Int) ^ IntKind.u8.bits=256:=by decide
 have b:IntKind.u8.signed=false:=rfl;have a:(UInt8.ofNat x.toNat).toNat=x.toNat%256:=by simp
 unfold IntKind.wrap;grind
theorem pd(l:List UInt8):(u8v l).length=l.length:=Hp _
theorem eW(l r:List UInt8):u8v (l++r)=u8v l++u8v r:=List.map_append
theorem HF_u8(l:List UInt8):HF (.agg ⟨u8v l⟩):=.agg λx a=>by obtain⟨b,_,rfl⟩:=Hn.1 a;exact HFi _ _
theorem u8_isB(l:List UInt8):IsB (u8v l) 0 l.length:=⟨l,by rw[JH,<-pd l,HX];rfl,rfl⟩
theorem u8_L(l:List UInt8):u8L (u8v l) 0 l.length=l:=by unfold u8L;rw[JH,<-pd l,HX];exact Ax l
def b2(x:Int):List UInt8:=[UInt8.ofNat x.toNat,UInt8.ofNat (x.fdiv 256).toNat]
def colB(a:La)(c:Nat):List UInt8:=a.flatMap λr=>b2 (r.getD c 0)
theorem oU(l:La)(c:Nat):(colB l c).length=2*l.length:=by
 induction l with
 |nil=>rfl
 |cons r l a=>grind [colB,E',b2]
theorem b2_inj{x y:Int}(i:0<=x)(c:x<65536)(g:0<=y)(b:y<65536)(h:b2 x=b2 y):x=y:=by unfold b2 at h;simp only[Ju,and_true]at h;obtain⟨e,d⟩:=h;have f:=Il UInt8.toNat e;have a:=Il UInt8.toNat d;rw[Int.fdiv_eq_ediv_of_nonneg _ (by omega),Int.fdiv_eq_ediv_of_nonneg _ (by omega)]at a;simp at f a;omega
theorem GB{a:AU}(h:OkA a){c:Nat}(w:c<256):Walk env f48 [auV a,.int .i64 c] (.string (av (colB a.2.2 c))):=by
 obtain⟨s,l,b⟩:=a;have p:=h.n1;have o:=h.row;have f:=h.ent;dsimp only at p o f;refine eP B7 (d:=1) (.scal rfl) ((jCo_nf _ s l b c).mpr ?_);rw[aG,aF (x:=2*(b.length:Int)) (by omega) (by omega)];refine⟨⟨by omega,by omega,by omega,by omega⟩,.dat (aq _),HF_u8 [],?_⟩;refine LAtZ.stepF B7 [] [] [] [1,5,14,15,16] (by kernel_rfl) (λk F A=>∃ i:Nat,F=frCo c b (colB (b.take i) c) i/\A=hCo (colB (b.take i) c)/\i+k=b.length) ?_ (k:=b.length) ⟨0,by unfold frCo;rw[aG];rfl,rfl,by omega⟩;rintro k F A ⟨i,rfl,rfl,r⟩;have j:=oU (b.take i) c;rw[Ic]at j;refine(EG _ _ b c _ i).mpr ?_;rw[aG];refine Sp.intro (λq=>?_) (λq=>?_);have q:=odt q;have g:i<b.length:=by omega
 have e:c<b[i].length:=by grind
 have n:=f _ (Hq g) _ (Hq e);have v:(↑(Int.toNat (c:Int)):Int)=c:=by omega
 have u:[Value.int .u8 (IntKind.wrap .u8 b[i][c]),Value.int .u8 (IntKind.wrap .u8 (Int.fdiv b[i][c] 256))]=u8v (b2 b[i][c]):=by
  have hd:0<=Int.fdiv b[i][c] 256:=by grind
  rw[uB n.1,uB hd];rfl
 have m:colB (b.take (i+1)) c=colB (b.take i) c++b2 b[i][c]:=by grind [HC,colB,Hu,gD]
 rw[bL g,v,D',aA e,af,u,pd];have t:(b2 b[i][c]).length=2:=rfl;refine⟨⟨by omega,q⟩,cG g,⟨by omega,by omega⟩,aL e,⟨by omega,by omega⟩,aL e,⟨rfl,by omega,by omega,by omega⟩,.dat (aq _),?_,k-1,by omega,i+1,?_,?_,by omega⟩;grind [eW,HF_u8];rw[aF (x:=(i:Int)+1) (by omega) (by omega),m];unfold frCo;rw[aG,E',t];rfl;rw[<-eW,<-m];rfl;have q:=odf q;refine⟨u8_isB _,?_⟩;rw[u8_L,Jo (by omega)];rfl
def coX:Lh->Lj
 | [v,.int .i64 c]=>(match auQ v with|some a=>some (.string (av (colB a.2.2 c.toNat)))|none=>none)
 |_=>none
def coP:Lh->Ll
 | [v,.int .i64 c]=>some (okV v/\0<=c/\c<256)
 |_=>none
theorem co_tab:∀ args A p v A',bg coP coX args A=some (p,v,A')->PH p->CallAt env 48 args A v A':=dh ai am (fn:=f48) rfl λargs v h b=>by
 unfold coX at h;split at h;· rename_i u c;obtain⟨⟨f,i⟩,e,g⟩:okV u/\0<=c/\c<256:=b;split at h;rotate_left;cases h;rename_i a d;cases h;rw[sQ f d];obtain⟨n,rfl⟩:=Iq e;grind [GB,fH,HFi]
 cases h
def auC(s:Int)(b:Li)(a:La):AObj:=.cells [.int .i64 s,dat 1 (blV b),dat 1 (roV a)] 25
def hA1(s:Int)(b:Li)(a:La):AH:=⟨Nd Lf (some (auC s b a)) Lf,1⟩
def hA2(s:Int)(c:Li)(e:La)(b:Int)(d:Li)(a:La):AH:=⟨Nd (Nd Lf (some (auC b d a)) Lf) (some (auC s c e)) Lf,2⟩
def XKy:SX:=⟨env,[(48,bg coP coX)],noEl,λ_=>.unroll 0⟩
theorem BS:XKy.Ok:=⟨ai,aD,am,.cons co_tab .nil⟩
def jKs(K:KV)(c:Int)(s:Int)(b:Li)(a:La):Prop:=aN XKy 1 f47 [.int .i64 c,.pointer (some ⟨0,0,none⟩)] (hA1 s b a) K
def jKp(K:KV)(c:Int)(s:Int)(d:Li)(f:La)(b:Int)(e:Li)(a:La):Prop:=aN XKy 1 f67 [.int .i64 c,.pointer (some ⟨0,0,none⟩),.pointer (some ⟨1,0,none⟩)] (hA2 s d f b e a) K
end
end Go.T9
namespace Go.T9
theorem _root_.Go.J8:type_of% @List.filter_cons:=@List.filter_cons
section
variable {S U:Type}[DecidableEq S] [DecidableEq U] {B:Type}
def addS:List S->List S->List S
 |q,[]=>q
 |q,s::l=>if s∈q then addS q l else addS (q++[s]) l
def exS(sc:S->List S):Nat->List S->Nat->List S
 |0,q,_=>q
 | f+1,q,i=>match q[i]? with
   |none=>q
   |some s=>exS sc f (addS q (sc s)) (i+1)
theorem cN:∀ (l q:List S),∃r,addS q l=q++r
 | [],q=>⟨[],by simp[addS]⟩
 |s::l,q=>by simp only[addS];split;exact cN l q;obtain⟨r,h⟩:=cN l (q++[s]);grind
theorem sT{l q:List S}{s:S}(h:s∈q):s∈addS q l:=by obtain⟨r,a⟩:=cN l q;rw[a];simp[h]
theorem eN:∀ {l q:List S}{s:S},s∈l->s∈addS q l
 |x::l,q,s,h=>by simp only[addS];rcases List.mem_cons.1 h with rfl|h;grind [sT];split<;>exact eN h
theorem du:∀ {l q:List S}{s:S},s∈addS q l->s∈q∨s∈l
 | [],q,s,h=>.inl h
 | x::l,q,s,h=>by
  simp only[addS]at h;split at h;· rcases du h with h|h;all_goals grind
  · rcases du h with h|h;all_goals grind
theorem cy:∀ {l q:List S},q.Nodup->(addS q l).Nodup
 | [],q,h=>h
 |x::l,q,h=>by simp only[addS];split;exact cy h;rename_i e;refine cy (List.nodup_append.2 ⟨h,by simp,λa d b c=>?_⟩);grind
theorem cB:∀ (n:Nat) (l:List Nat),l.Nodup->(∀x∈l,x<n)->l.length<=n
 | 0,l,_,h=>by
  cases l with
  |nil=>simp
  |cons x l=>exact absurd (h x (by simp)) (by omega)
 | n+1,l,hd,h=>by
  have d:=cB n (l.filter λy=> !decide (y=n)) (hd.filter _) λx c=>by grind
  have a:∀ l:List Nat,l.Nodup->l.length<=(l.filter λy=> !decide (y=n)).length+1:=by
   intro l;induction l with
   |nil=>intro _;simp
   |cons x l b=>intro hd;rw[List.nodup_cons]at hd;by_cases e:x=n;grind [List.filter_eq_self,J8,List.length_cons];grind
  have:=a l hd;omega
end
end Go.T9
namespace Go.T9
open Go Go.AM Go.MK Go.Proofs.Tryz
noncomputable section
theorem jKs_nf(K:KV)(c s:Int)(b:Li)(a:La):jKs K c s b a=((okV (Value.agg (Array.mk [Vi s,Vd 1 (blV b),Vd 1 (roV a)]))/\0<=c/\c<256)/\K (Vs (ByteArray.mk (Array.mk (colB (List.map deR (roV a)) (Int.toNat c))))) (AH.mk (Sg (AObj.cells [Vi s,Vd 1 (blV b),Vd 1 (roV a)] 25)) 1)):=by kernel_rfl
abbrev M_:=λa=>Vs (ByteArray.mk (Array.mk a))
abbrev P':=λa=>Vd 1 (blV a)
theorem L6(K:KV)(c s:Int)(e:Li)(f:La)(b:Int)(d:Li)(a:La):jKp K c s e f b d a=((okV (V_ s (blV e) (roV f))/\0<=c/\c<256)/\Value.agg (Array.mk [Vi b,P' d,S_ a])=Value.agg (Array.mk [Vi b,P' d,S_ a])/\(okV (V_ b (blV d) (roV a))/\0<=c/\c<256)/\List.length (Array.toList (ByteArray.data (av (colB (Prod.snd (Prod.snd (s,v_ e,n_ f))) (G_ c)))))+List.length (Array.toList (ByteArray.data (av (colB (Prod.snd (Prod.snd (b,v_ d,n_ a))) (G_ c)))))<=4611686018427387904/\K (M_ (Array.toList (ByteArray.data (av (colB (Prod.snd (Prod.snd (s,v_ e,n_ f))) (G_ c))))++Array.toList (ByteArray.data (av (colB (Prod.snd (Prod.snd (b,v_ d,n_ a))) (G_ c)))))) (AH.mk (Kw (Sg (h_ b d a)) (h_ s e f)) 10)):=by kernel_rfl
theorem jKp_nf:type_of%(by have h:=@L6;revert h;delta d_ h_ n_ v_ G_ M_ S_ V_ P' Kw;exact id):=@L6
abbrev LB:=List UInt8
def keyS(a:La)(c:Nat):LB:=colB a c
def keyP(b a:La)(c:Nat):LB:=colB b c++colB a c
theorem end_a1(Q:Value->AH->Prop)(s:Int)(b:Li)(a:La)(t:ByteArray)(n:Nat):endF env (hA1 s b a) [] [] [] Q (.string t) ⟨(hA1 s b a).t,n⟩=(HF (dat 1 (blV b))/\HF (dat 1 (roV a))/\Q (.string t) (hA1 s b a)):=by kernel_rfl
theorem end_a2(Q:Value->AH->Prop)(s:Int)(b:Li)(d:La)(e:Int)(c:Li)(a:La)(t:ByteArray)(n:Nat):endF env (hA2 s b d e c a) [] [] [] Q (.string t) ⟨(hA2 s b d e c a).t,n⟩=(HF (dat 1 (blV b))/\HF (dat 1 (roV d))/\HF (dat 1 (blV c))/\HF (dat 1 (roV a))/\Q (.string t) (hA2 s b d e c a)):=by kernel_rfl
theorem DN{a:AU}(h:OkA a){c:Nat}(f:c<256):WalkF env f47 [.int .i64 c,.pointer (some ⟨0,0,none⟩)] (hA1 a.1 a.2.1 a.2.2) (.string (av (keyS a.2.2 c))) (hA1 a.1 a.2.1 a.2.2):=by obtain⟨s,b,e⟩:=a;refine aC BS (d:=1) (ns:=[]) (zs:=[]) (ws:=[]) ((jKs_nf _ c s b e).mpr ⟨⟨rd h,by omega,by omega⟩,?_⟩);rw[bd];exact(end_a1 _ s b e _ _).mpr ⟨.dat (ax _),.dat (aq _),rfl,rfl⟩
theorem DO{a b:AU}(h:OkA a)(l:OkA b){c:Nat}(n:c<256):WalkF env f67 [.int .i64 c,.pointer (some ⟨0,0,none⟩),.pointer (some ⟨1,0,none⟩)] (hA2 a.1 a.2.1 a.2.2 b.1 b.2.1 b.2.2) (.string (av (keyP a.2.2 b.2.2 c))) (hA2 a.1 a.2.1 a.2.2 b.1 b.2.1 b.2.2):=by obtain⟨s,g,i⟩:=a;obtain⟨k,e,f⟩:=b;have m:=h.n1;have j:=l.n1;dsimp only at m j;refine aC BS (d:=1) (ns:=[]) (zs:=[]) (ws:=[]) ((jKp_nf _ c s g i k e f).mpr ⟨⟨rd h,by omega,by omega⟩,rfl,⟨rd l,by omega,by omega⟩,?_,?_⟩);rw[bd,bd];show(colB i c).length+(colB f c).length<=_;rw[oU,oU];omega;rw[bd,bd];exact(end_a2 _ s g i k e f _ _).mpr ⟨.dat (ax _),.dat (aq _),.dat (ax _),.dat (aq _),rfl,rfl⟩
def auO:AObj->Option AU
 | .cells [.int .i64 s,.func (.yield 1) ⟨bs⟩ ⟨[]⟩,.func (.yield 1) ⟨rs⟩ ⟨[]⟩] e=>bif Nat.beq e 25 then some (s,bs.map deB,rs.map deR)else none
 |_=>none
def auCo(a:AU):AObj:=auC a.1 a.2.1 a.2.2
def okO(o:AObj)(a:AU):Prop:=o=auCo a/\OkA a
def spKs:Lh->List AObj->Option (Ll×Value×List AObj)
 | [.int .i64 c,.pointer (some ⟨B,o,none⟩)],[x]=>(match auO x with
   |some a=>bif Nat.beq B 0&&Nat.beq o 0 then some (some (okO x a/\0<=c/\c<256),.string (av (keyS a.2.2 c.toNat)),[x])else none
   |none=>none)
 |_,_=>none
def spKp:Lh->List AObj->Option (Ll×Value×List AObj)
 | [.int .i64 c,.pointer (some ⟨B,o,none⟩),.pointer (some ⟨B2,o2,none⟩)],[x,y]=>(match auO x,auO y with
   |some a,some b=>bif (Nat.beq B 0&&Nat.beq o 0)&&(Nat.beq B2 1&&Nat.beq o2 0)then some (some (okO x a/\okO y b/\0<=c/\c<256),.string (av (keyP a.2.2 b.2.2 c.toNat)),[x,y])else none
   |_,_=>none)
 |_,_=>none
theorem pT(a:AU):aQ [auCo a]=hA1 a.1 a.2.1 a.2.2:=by kernel_rfl
theorem wF(a b:AU):aQ [auCo a,auCo b]=hA2 a.1 a.2.1 a.2.2 b.1 b.2.1 b.2.2:=by kernel_rfl
theorem ks_tab:∀ args A p v A',frmR noAr spKs args A=some (p,v,A')->PH p->CallAt env 47 args A v A':=aS ai (fn:=f47) rfl λargs e p v d h f=>by unfold spKs at h;split at h;rename_i c B o x;split at h;rename_i a i;cases b:Nat.beq B 0&&Nat.beq o 0;rw[b]at h;cases h;rw[b]at h;simp only[C',osI,Hs]at h;obtain⟨rfl,rfl,rfl⟩:=h;simp only[f',Hy]at b;obtain⟨rfl,rfl⟩:=b;obtain⟨⟨rfl,k⟩,g,j⟩:okO x a/\0<=c/\c<256:=f;obtain⟨n,rfl⟩:=Iq g;grind [pT,DN];cases h;cases h
theorem kp_tab:∀ args A p v A',frmR noAr spKp args A=some (p,v,A')->PH p->CallAt env 67 args A v A':=aS ai (fn:=f67) rfl λargs f p v e h i=>by unfold spKp at h;split at h;rename_i c B o l g x y;split at h;rename_i a b m j;cases d:(Nat.beq B 0&&Nat.beq o 0)&&(Nat.beq l 1&&Nat.beq g 0);rw[d]at h;cases h;rw[d]at h;simp only[C',osI,Hs]at h;obtain⟨rfl,rfl,rfl⟩:=h;simp only[f',Hy]at d;obtain⟨⟨rfl,rfl⟩,rfl,rfl⟩:=d;obtain⟨⟨rfl,s⟩,⟨rfl,r⟩,k,q⟩:okO x a/\okO y b/\0<=c/\c<256:=i;obtain⟨n,rfl⟩:=Iq k;grind [wF,DO];cases h;cases h
section
variable {K:Type}[DecidableEq K]
def idN:List K->K->Nat
 | [],_=>0
 |x::l,k=>if x=k then 0 else idN l k+1
theorem jk{k:K}:∀ {l:List K},¬k∈l->idN l k=l.length
 | [],_=>rfl
 |x::l,h=>by have a:¬ x=k:=λe=>h (by simp[e]);have b:¬ k∈l:=λe=>h (by simp[e]);simp only[idN,Hm a,HW,jk b]
theorem ou{k:K}:∀ {l:List K},k∈l->l[idN l k]? =some k
 | x::l,h=>by
  by_cases e:x=k;simp[idN,e];have:k∈l:=by grind
  simp only[idN,Hm e,Jf];exact ou this
theorem ot{k:K}{l:List K}(h:k∈l):idN l k<l.length:=(Hx.1 (ou h)).1
theorem pQ{k:K}(r:List K):∀ {l:List K},k∈l->idN (l++r) k=idN l k
 | x::l,h=>by
  by_cases e:x=k;simp[idN,e];have:k∈l:=by grind
  simp only[IY,idN,Hm e,pQ r this]
def mkF:List K->Nat->List (K×Int)
 | [],_=>[]
 |k::l,i=>(k,(i:Int))::mkF l (i+1)
def mkM(l:List K):List (K×Int):=mkF l 0
theorem vK:∀ (l:List K) (i:Nat),(mkF l i).length=l.length
 | [],_=>rfl
 |k::l,i=>by simp[mkF,vK l]
theorem vL(k:K):∀ (l:List K) (i:Nat),aget (mkF l i) k=if k∈l then some (((idN l k+i:Nat)):Int)else none
 | [],i=>rfl
 |x::l,i=>by simp only[mkF,aget];by_cases e:x=k;subst e;simp[idN];rw[Hm e,vL k l];have b:k≠x:=λh=>e h.symm;by_cases h:k∈l;have a:idN (x::l) k=idN l k+1:=Hm e;grind;grind
theorem vJ{k:K}:∀ {l:List K}{i:Nat},¬k∈l->aset (mkF l i) k ((l.length+i:Nat):Int)=mkF (l++[k]) i
 | [],i,_=>by simp[mkF,aset]
 |x::l,i,h=>by have a:¬ x=k:=λe=>h (by simp[e]);have b:¬ k∈l:=λe=>h (by simp[e]);have:=vJ (l:=l) (i:=i+1) b;simp only[mkF,aset,IY,Hm a,HW];grind
theorem ix(l:List K)(k:K):aget (mkM l) k=if k∈l then some ((idN l k:Nat):Int)else none:=vL k l 0
theorem eg{l:List K}{k:K}(h:¬ k∈l):aset (mkM l) k ((l.length:Nat):Int)=mkM (l++[k]):=vJ (i:=0) h
theorem gj(l:List K):(mkM l).length=l.length:=vK l 0
end
def vS:Value->LB
 | .string s=>s.data.toList
 |_=>[]
variable {n:Nat}{key:Nat->LB}
def kS(l:LB):Value:=.string (av l)
abbrev Ents:=Lc
def enS(m:List (LB×Int)):Ents:=ents kS (Value.int .i64) m
def mgS(a:Ents)(k:Value):Int:=(aget (inv vS deI a) (vS k)).getD 0
def mhS(a:Ents)(k:Value):Bool:=(aget (inv vS deI a) (vS k)).isSome
def msS(a:Ents)(k v:Value):Ents:=enS (aset (inv vS deI a) (vS k) (deI v))
def mnS(a:Ents)(k v:Value):Nat:=(aset (inv vS deI a) (vS k) (deI v)).length
theorem F8(a b:LB):eqL a b=decide (a=b):=by
 cases h:eqL a b with
 |true=>simp[(eH a b).1 h]
 |false=>by_cases e:a=b;rw[(eH a b).2 e]at h;cases h;simp[e]
theorem koS:KeyOk env 89 9 3 kS (.int .i64 0):=⟨by kernel_rfl,λ_=>rfl,λc k=>by cases c<;>kernel_rfl,⟨.string,by kernel_rfl,.inl λa b=>by show some (eqL a b)=_;rw[F8]⟩,λk=>by simp[kS,Instr.sameBits,kE,(eH _ _).2 rfl],⟨_,rfl,rfl,rfl⟩⟩
theorem invS(m:List (LB×Int)):inv vS deI (enS m)=m:=mC (λ_=>rfl) (λ_=>rfl) m
theorem vQ(m:List (LB×Int))(k:LB):bY env 89 (enS m) (kS k)=some (.int .i64 (mgS (enS m) (kS k)),mhS (enS m) (kS k)):=by refine(ka koS (Value.int .i64) k m).trans ?_;unfold mgS mhS;rw[invS];show _=some (Value.int .i64 ((aget m k).getD 0),(aget m k).isSome);cases aget m k<;>rfl
theorem updS(m:List (LB×Int))(k:LB)(v:Int):aR env 89 (enS m) m.length (kS k) (.int .i64 v)=some (enS (aset m k v),(aset m k v).length):=lT koS (Value.int .i64) k v m
theorem fF(m:List (LB×Int)):HF (.agg ⟨(enS m).map λx=>x.2.1⟩):=qy (λv=>.scal rfl) m
def arD:TypeId->Lk:=λt=>bif Nat.beq t 51 then some 256 else none
def elCl:El:={El.of (λ_ _ els i=>some (.int .i64 (aa els i)))with app:=true,gm:=λ_=>true,ml:=λ_ es k=>some (.int .i64 (mgS es k),mhS es k),mu:=λ_ es _ k v=>some (msS es k v,mnS es k v)}
def XCl:SX:=⟨env,[(47,frmR noAr spKs),(67,frmR noAr spKp)],elCl,λ_=>.autoN [(.cell 0 256,3,1)] [] [] [0,1,4,10]⟩
theorem sX:XCl.Ok:=⟨ai,aD,am,.cons ks_tab (.cons kp_tab .nil)⟩
def nilS:Value:=.slice none 0 0
def groS(B n:Nat):Value:=.slice (some ⟨B,0,none⟩) n (unk+3+1)
def cKs(B:Nat):Value:=.func (.func 47) ⟨[]⟩ ⟨[.pointer (some ⟨B,0,none⟩)]⟩
def cKp(B a:Nat):Value:=.func (.func 67) ⟨[]⟩ ⟨[.pointer (some ⟨B,0,none⟩),.pointer (some ⟨a,0,none⟩)]⟩
def dfO(C:Le)(r:Lh):AObj:=.arr (inV C) r 256 51
def hCs0(C:Le)(s:Int)(b:Li)(a:La):AH:=⟨Nd (Nd Lf (some (auC s b a)) Lf) (some (dfO C [nilS,nilS,nilS])) Lf,2⟩
def hCp0(C:Le)(s:Int)(c:Li)(e:La)(b:Int)(d:Li)(a:La):AH:=⟨Nd (Nd Lf (some (auC s c e)) Lf) (some (dfO C [nilS,nilS,nilS])) (Nd Lf (some (auC b d a)) Lf),3⟩
def hCs(C F:Le)(a:List LB)(s:Int)(c:Li)(b:La):AH:=⟨(Nd (Nd (Nd Lf (some (.gro (inV F) [] 3)) Lf) (some (auC s c b)) Lf) (some (dfO C [groS 3 F.length,nilS,nilS])) (Nd Lf (some (.map (enS (mkM a)) a.length)) Lf)),4⟩
def hCp(C F:Le)(a:List LB)(s:Int)(d:Li)(f:La)(c:Int)(e:Li)(b:La):AH:=⟨(Nd (Nd (Nd Lf (some (.map (enS (mkM a)) a.length)) Lf) (some (auC s d f)) Lf) (some (dfO C [groS 4 F.length,nilS,nilS])) (Nd (Nd Lf (some (.gro (inV F) [] 3)) Lf) (some (auC c e b)) Lf)),5⟩
def frCs(c:Nat):T Value:=(Nd (Nd Lf (some (cKs 1)) Lf) (some (.pointer (some ⟨0,0,none⟩))) (Nd (Nd Lf (some (.map (some 2))) Lf) none (Nd (Nd Lf (some (.int .i64 c)) Lf) none Lf)))
def frCp(c:Nat):T Value:=(Nd (Nd Lf (some (cKp 1 2)) Lf) (some (.pointer (some ⟨0,0,none⟩))) (Nd (Nd Lf (some (.map (some 3))) Lf) none (Nd (Nd Lf (some (.int .i64 c)) Lf) none Lf)))
def Bl(K:KV):KX:=finK XCl.E (f46.results).toList K
def jCs(K:KV)(C:Le)(s:Int)(b:Li)(a:La):Prop:=aN XCl 2 f46 [.pointer (some ⟨0,0,none⟩),cKs 1] (hCs0 C s b a) K
def jCsL(K:KV)(e:KF)(f C F:Le)(d:List LB)(s:Int)(a:Li)(b:La)(c:Nat):Prop:=aI XCl 2 (Func.ntmps f46) (hCs0 f s a b) (ay f46) [1,1,0] (Bl K) [(.cell 0 256,3,1)] [] [] [0,1,4,10] e (frCs c) (hCs C F d s a b)
def jCp(K:KV)(C:Le)(s:Int)(c:Li)(e:La)(b:Int)(d:Li)(a:La):Prop:=aN XCl 2 f46 [.pointer (some ⟨0,0,none⟩),cKp 1 2] (hCp0 C s c e b d a) K
def jCpL(K:KV)(h:KF)(i C F:Le)(g:List LB)(s:Int)(d:Li)(f:La)(b:Int)(e:Li)(a:La)(c:Nat):Prop:=aI XCl 2 (Func.ntmps f46) (hCp0 i s d f b e a) (ay f46) [1,1,0] (Bl K) [(.cell 0 256,3,1)] [] [] [0,1,4,10] h (frCp c) (hCp C F g s d f b e a)
abbrev p_:=Value.slice none 0 0
abbrev D_:=λa=>Value.map (some a)
abbrev F_:=λa=>HF (d_ (inV a))
abbrev Kr:=λa b=>AObj.map a b
abbrev KN:=λa b=>W_ (some ⟨a,b,none⟩)
abbrev LN:=λa b=>AObj.arr a b 256 51
theorem L7(K:KV)(C:Le)(s:Int)(b:Li)(a:La):jCs K C s b a=(F_ C/\U' b/\LQ a/\LC/\LC/\LAtZ XCl 2 f46.ntmps (hCs0 C s b a) (ay f46) [1,1,0] (finK (SX.E XCl) f46.results.toList K) (Ns (Sg (q_ 47 [] [c_ 1 0])) i_ (No (Sg (D_ 2)) (H_ (Vi 0)))) (K_ (Kw (Sg (AObj.gro [] [] 3)) (h_ s b a)) (LN (inV C) [KN 3 0,p_,p_]) (Sg (Kr [] 0)) 4)):=by kernel_rfl
theorem jCs_nf:type_of%(by have h:=@L7;revert h;delta c_ d_ h_ i_ p_ q_ D_ F_ H_ K_ S_ W_ U' Kr Kw KN LC LN LQ;exact id):=@L7
abbrev f_:=λa=>AObj.gro (inV a) [] 3
abbrev g_:=λa b c=>b_ (some ⟨a,b,none⟩) c
abbrev KW:=λa=>enS (mkM a)
abbrev Lp:=λa=>Sg (f_ a)
abbrev LF:=Value.tuple ⟨[]⟩
abbrev LK:=λa b c=>okO (h_ a b c) (a,v_ b,n_ c)
abbrev KD(a:Nat)(b:Le):Prop:=(List.all [Vi a] cellv=true/\List.length b+0=List.length (inV b)/\List.length b+(1:Nat)<=(70368744177664:Nat)/\(List.length b+1)*(8:Nat)<=(140737488355328:Nat))
theorem L8(K:KV)(e:KF)(f:Le)(C:Le)(F:Le)(b:List LB)(s:Int)(d:Li)(a:La)(c:Nat):jCsL K e f C F b s d a c=(Sp (decide ((c:Int)<256)) (HFs [P' d,S_ a,P' d,S_ a] (LK s d a/\0<=(c:Int)/\(c:Int)<256)/\bY (SX.E XCl) 89 (KW b) (M_ (keyS (n_ a) (G_ c)))=some (Vi (mgS (KW b) (M_ (keyS (n_ a) (G_ c)))),mhS (KW b) (M_ (keyS (n_ a) (G_ c))))/\Sp (! mhS (KW b) (M_ (keyS (n_ a) (G_ c)))) (aR (SX.E XCl) 89 (KW b) b.length (M_ (keyS (n_ a) (G_ c))) (Lr F.length)=some (msS (KW b) (M_ (keyS (n_ a) (G_ c))) (Lr F.length),mnS (KW b) (M_ (keyS (n_ a) (G_ c))) (Lr F.length))/\KD c F/\(0<=(c:Int)/\(c:Int)<256)/\c<256/\Kt (List.set (inV C) c (Lr F.length))/\U' d/\LQ a/\Kt (mvl (msS (KW b) (M_ (keyS (n_ a) (G_ c))) (Lr F.length)))/\Kt (inV F++[Vi c])/\e (Ns (Sg (q_ 47 [] [c_ 1 0])) i_ (No (Sg (D_ 2)) (No (x_ ((c:Int)+1)) Lf))) (K_ (Kw (Lu (inV F++[Vi c]) 3) (h_ s d a)) (LN (List.set (inV C) c (Lr F.length)) [g_ 3 0 (List.length F+1),p_,p_]) (Sg (Kr (msS (KW b) (M_ (keyS (n_ a) (G_ c))) (Lr F.length)) (mnS (KW b) (M_ (keyS (n_ a) (G_ c))) (Lr F.length)))) 4)) ((0<=(c:Int)/\(c:Int)<256)/\c<256/\Kt (List.set (inV C) c (Vi (mgS (KW b) (M_ (keyS (n_ a) (G_ c))))))/\U' d/\LQ a/\Kt (mvl (KW b))/\F_ F/\e (Ns (Sg (q_ 47 [] [c_ 1 0])) i_ (No (Sg (D_ 2)) (No (x_ ((c:Int)+1)) Lf))) (K_ (Kw (Lp F) (h_ s d a)) (LN (List.set (inV C) c (Vi (mgS (KW b) (M_ (keyS (n_ a) (G_ c)))))) [g_ 3 0 F.length,p_,p_]) (Sg (Kr (KW b) b.length)) 4))) (K LF (K_ (Kw (Lp F) (h_ s d a)) (LN (inV C) [g_ 3 0 F.length,p_,p_]) (Sg (Kr (KW b) b.length)) 4))):=by kernel_rfl
theorem EB:type_of%(by have h:=@L8;revert h;delta KD b_ c_ d_ f_ g_ h_ i_ l_ n_ p_ q_ v_ x_ D_ F_ G_ I_ K_ M_ S_ P' U' Kr Kt Kw KW Lp Lr Lu LF LK LN LQ;exact id):=@L8
theorem L9(K:KV)(C:Le)(s:Int)(b:Li)(d:La)(e:Int)(c:Li)(a:La):jCp K C s b d e c a=(F_ C/\U' b/\LQ d/\U' c/\LQ a/\LC/\LC/\LAtZ XCl 2 f46.ntmps (hCp0 C s b d e c a) (ay f46) [1,1,0] (finK (SX.E XCl) f46.results.toList K) (Ns (Sg (q_ 67 [] [c_ 1 0,c_ 2 0])) i_ (No (Sg (D_ 3)) (H_ (Vi 0)))) (K_ (Kw (Sg (Kr [] 0)) (h_ s b d)) (LN (inV C) [KN 4 0,p_,p_]) (Kw (Sg (AObj.gro [] [] 3)) (h_ e c a)) 5)):=by kernel_rfl
theorem jCp_nf:type_of%(by have h:=@L9;revert h;delta c_ d_ h_ i_ p_ q_ D_ F_ H_ K_ S_ W_ U' Kr Kw KN LC LN LQ;exact id):=@L9
theorem Ma(K:KV)(h:KF)(i:Le)(C:Le)(F:Le)(d:List LB)(s:Int)(e:Li)(b:La)(g:Int)(f:Li)(a:La)(c:Nat):jCpL K h i C F d s e b g f a c=(Sp (decide ((c:Int)<256)) (HFs [P' e,S_ b,P' f,S_ a,P' e,S_ b,P' f,S_ a] (LK s e b/\LK g f a/\0<=(c:Int)/\(c:Int)<256)/\bY (SX.E XCl) 89 (KW d) (M_ (keyP (n_ b) (n_ a) (G_ c)))=some (Vi (mgS (KW d) (M_ (keyP (n_ b) (n_ a) (G_ c)))),mhS (KW d) (M_ (keyP (n_ b) (n_ a) (G_ c))))/\Sp (! mhS (KW d) (M_ (keyP (n_ b) (n_ a) (G_ c)))) (aR (SX.E XCl) 89 (KW d) d.length (M_ (keyP (n_ b) (n_ a) (G_ c))) (Lr F.length)=some (msS (KW d) (M_ (keyP (n_ b) (n_ a) (G_ c))) (Lr F.length),mnS (KW d) (M_ (keyP (n_ b) (n_ a) (G_ c))) (Lr F.length))/\KD c F/\(0<=(c:Int)/\(c:Int)<256)/\c<256/\Kt (List.set (inV C) c (Lr F.length))/\U' e/\LQ b/\U' f/\LQ a/\Kt (mvl (msS (KW d) (M_ (keyP (n_ b) (n_ a) (G_ c))) (Lr F.length)))/\Kt (inV F++[Vi c])/\h (Ns (Sg (q_ 67 [] [c_ 1 0,c_ 2 0])) i_ (No (Sg (D_ 3)) (No (x_ ((c:Int)+1)) Lf))) (K_ (Kw (Sg (Kr (msS (KW d) (M_ (keyP (n_ b) (n_ a) (G_ c))) (Lr F.length)) (mnS (KW d) (M_ (keyP (n_ b) (n_ a) (G_ c))) (Lr F.length)))) (h_ s e b)) (LN (List.set (inV C) c (Lr F.length)) [g_ 4 0 (List.length F+1),p_,p_]) (Kw (Lu (inV F++[Vi c]) 3) (h_ g f a)) 5)) ((0<=(c:Int)/\(c:Int)<256)/\c<256/\Kt (List.set (inV C) c (Vi (mgS (KW d) (M_ (keyP (n_ b) (n_ a) (G_ c))))))/\U' e/\LQ b/\U' f/\LQ a/\Kt (mvl (KW d))/\F_ F/\h (Ns (Sg (q_ 67 [] [c_ 1 0,c_ 2 0])) i_ (No (Sg (D_ 3)) (No (x_ ((c:Int)+1)) Lf))) (K_ (Kw (Sg (Kr (KW d) d.length)) (h_ s e b)) (LN (List.set (inV C) c (Vi (mgS (KW d) (M_ (keyP (n_ b) (n_ a) (G_ c)))))) [g_ 4 0 F.length,p_,p_]) (Kw (Lp F) (h_ g f a)) 5))) (K LF (K_ (Kw (Sg (Kr (KW d) d.length)) (h_ s e b)) (LN (inV C) [g_ 4 0 F.length,p_,p_]) (Kw (Lp F) (h_ g f a)) 5))):=by kernel_rfl
theorem EF:type_of%(by have h:=@Ma;revert h;delta KD b_ c_ d_ f_ g_ h_ i_ l_ n_ p_ q_ v_ x_ D_ F_ G_ I_ K_ M_ S_ P' U' Kr Kt Kw KW Lp Lr Lu LF LK LN LQ;exact id):=@Ma
def clsF(key:Nat->LB):Nat->Lg
 |0=>[]
 |n+1=>if key n∈(clsF key n).map key then clsF key n else clsF key n++[n]
def clsK(a:Nat->LB)(n:Nat):List LB:=(clsF a n).map a
def clsC(key:Nat->LB):Nat->Le
 |0=>List.replicate 256 0
 |n+1=>(clsC key n).set n (idN (clsK key n) (key n):Nat)
def clsI(a:Nat->LB)(n:Nat):Le:=(clsF a n).map Int.ofNat
theorem eJ(key:Nat->LB):∀ n,∀x∈clsF key n,x<n
 |0,x,h=>by simp[clsF]at h
 |n+1,x,h=>by unfold clsF at h;split at h;have:=eJ key n x h;omega;rcases H3.1 h with h|h;have:=eJ key n x h;omega;simp at h;omega
theorem eK(key:Nat->LB):∀ n,(clsF key n).length<=n
 |0=>by simp[clsF]
 |n+1=>by have:=eK key n;grind [clsF,E']
theorem gZ(key:Nat->LB)(n:Nat):(clsK key n).length=(clsF key n).length:=Hp _
theorem sG(key:Nat->LB)(n:Nat):(clsI key n).length=(clsF key n).length:=Hp _
theorem jr(key:Nat->LB):∀ n,(clsC key n).length=256
 |0=>by simp[clsC]
 |n+1=>by simp[clsC,jr key n]
theorem ab(l:Le):HF (.agg ⟨inV l⟩):=.agg (o9 l)
theorem bz(l:Le)(i:Nat)(x:Int):(inV l).set i (.int .i64 x)=inV (l.set i x):=by unfold inV;rw[List.map_set]
theorem wx(l r:Le):inV l++inV r=inV (l++r):=by unfold inV;rw[List.map_append]
theorem pB(ks:List LB)(k:LB):mhS (enS (mkM ks)) (kS k)=decide (k∈ks):=by unfold mhS;rw[invS];show(aget (mkM ks) k).isSome=_;grind [ix]
theorem tC(ks:List LB)(k:LB)(h:k∈ks):mgS (enS (mkM ks)) (kS k)=(idN ks k:Nat):=by unfold mgS;rw[invS];show(aget (mkM ks) k).getD 0=_;rw[ix,Ht h];rfl
theorem Dw(ks:List LB)(k:LB)(h:¬ k∈ks):msS (enS (mkM ks)) (kS k) (.int .i64 (ks.length:Nat))=enS (mkM (ks++[k])):=by unfold msS;rw[invS];show enS (aset (mkM ks) k ((ks.length:Nat):Int))=_;rw[eg h]
theorem Dy(ks:List LB)(k:LB)(h:¬ k∈ks):mnS (enS (mkM ks)) (kS k) (.int .i64 (ks.length:Nat))=(ks++[k]).length:=by unfold mnS;rw[invS];show(aset (mkM ks) k ((ks.length:Nat):Int)).length=_;rw[eg h,gj]
theorem uy(ks:List LB)(k:LB)(h:¬ k∈ks):aR env 89 (enS (mkM ks)) ks.length (kS k) (.int .i64 (ks.length:Nat))=some (enS (mkM (ks++[k])),(ks++[k]).length):=by grind [updS,mkM,gj,eg]
theorem g9(h:key n∈clsK key n):clsF key (n+1)=clsF key n:=Ht h
theorem hJ(h:¬ key n∈clsK key n):clsF key (n+1)=clsF key n++[n]:=Hm h
theorem sD(h:¬ key n∈clsK key n):clsK key (n+1)=clsK key n++[key n]:=by show(clsF key (n+1)).map key=_;rw[hJ h,List.map_append];rfl
theorem sC(h:key n∈clsK key n):clsK key (n+1)=clsK key n:=by show(clsF key (n+1)).map key=_;rw[g9 h];rfl
theorem sF(h:¬ key n∈clsK key n):clsI key (n+1)=clsI key n++[(n:Int)]:=by show(clsF key (n+1)).map _=_;rw[hJ h,List.map_append];rfl
theorem sE(h:key n∈clsK key n):clsI key (n+1)=clsI key n:=by show(clsF key (n+1)).map _=_;rw[g9 h];rfl
theorem sH(h:¬ key n∈clsK key n):clsC key (n+1)=(clsC key n).set n ((clsF key n).length:Nat):=by grind [clsC,jk,gZ]
def hCsE(C F:Le)(s:Int)(b:Li)(a:La):AH:=⟨(Nd (Nd Lf (some (auC s b a)) Lf) (some (dfO C [groS 2 F.length,nilS,nilS])) (Nd Lf (some (.gro (inV F) [] 3)) Lf)),3⟩
def hCpE(C F:Le)(s:Int)(c:Li)(e:La)(b:Int)(d:Li)(a:La):AH:=⟨(Nd (Nd (Nd Lf (some (.gro (inV F) [] 3)) Lf) (some (auC s c e)) Lf) (some (dfO C [groS 3 F.length,nilS,nilS])) (Nd Lf (some (auC b d a)) Lf)),4⟩
theorem end_cs(Q:Value->AH->Prop)(c C F:Le)(d:List LB)(s:Int)(b:Li)(a:La):endF env (hCs0 c s b a) [] [] [] Q (.tuple ⟨[]⟩) (hCs C F d s b a)=(HF (.agg ⟨inV C⟩)/\HF (dat 1 (blV b))/\HF (dat 1 (roV a))/\HF (.agg ⟨inV F⟩)/\Q (.tuple ⟨[]⟩) (hCsE C F s b a)):=by kernel_rfl
theorem end_cp(Q:Value->AH->Prop)(g C F:Le)(f:List LB)(s:Int)(b:Li)(d:La)(e:Int)(c:Li)(a:La):endF env (hCp0 g s b d e c a) [] [] [] Q (.tuple ⟨[]⟩) (hCp C F f s b d e c a)=(HF (.agg ⟨inV C⟩)/\HF (dat 1 (blV b))/\HF (dat 1 (roV d))/\HF (dat 1 (blV c))/\HF (dat 1 (roV a))/\HF (.agg ⟨inV F⟩)/\Q (.tuple ⟨[]⟩) (hCpE C F s b d e c a)):=by kernel_rfl
def z256:Le:=List.replicate 256 0
theorem Gx{a:AU}(h:OkA a):WalkF env f46 [.pointer (some ⟨0,0,none⟩),cKs 1] (hCs0 z256 a.1 a.2.1 a.2.2) (.tuple ⟨[]⟩) (hCsE (clsC (keyS a.2.2) 256) (clsI (keyS a.2.2) 256) a.1 a.2.1 a.2.2):=by
 obtain⟨s,b,f⟩:=a;refine aC sX (d:=2) (ns:=[]) (zs:=[]) (ws:=[]) ((jCs_nf _ z256 s b f).mpr ⟨ab _,.dat (ax _),.dat (aq _),ab [],ab [],?_⟩);generalize l:keyS f=key;refine LAtZ.stepF sX [(.cell 0 256,3,1)] [] [] [0,1,4,10] (by kernel_rfl) (λk F A=>∃ c:Nat,F=frCs c/\A=hCs (clsC key c) (clsI key c) (clsK key c) s b f/\c+k=256) ?_ (k:=256) ⟨0,rfl,rfl,by omega⟩;rintro k F A ⟨c,rfl,rfl,m⟩;have j:=eK key c;have i:=sG key c;have e:=gZ key c;refine(EB _ _ z256 _ _ _ s b f c).mpr (Sp.intro (λq=>?_) (λq=>?_));have q:=odt q;rw[bd,D',l];have o:Vs (ByteArray.mk (Array.mk (key c)))=kS (key c):=rfl;rw[o,i,<-e,pB];refine⟨⟨.dat (ax _),.dat (aq _),.dat (ax _),.dat (aq _),⟨by rw[bf];rfl,by rw[bf];exact h⟩,by omega,by omega⟩,(vQ _ _).trans (by rw[pB]),Sp.intro (λg=>?_) (λg=>?_)⟩;have g:¬ key c∈clsK key c:=by simpa using g
 rw[Dw _ _ g,Dy _ _ g,bz,show [Vi (c:Int)]=inV [(c:Int)]from rfl,wx,aF (x:=(c:Int)+1) (by omega) (by omega)];refine⟨uy _ _ g,⟨rfl,by rw[af];omega,by omega,by omega⟩,⟨by omega,by omega⟩,by omega,ab _,.dat (ax _),.dat (aq _),fF _,ab _,k-1,by omega,c+1,rfl,?_,by omega⟩;rw[sH g,sF g,sD g];unfold hCs;rw[show(clsI key c++[(c:Int)]).length=(clsK key c).length+1 by grind,<-e];rfl;have g:key c∈clsK key c:=by simpa using g
 rw[tC _ _ g,bz,aF (x:=(c:Int)+1) (by omega) (by omega)];refine⟨⟨by omega,by omega⟩,by omega,ab _,.dat (ax _),.dat (aq _),fF _,ab _,k-1,by omega,c+1,rfl,?_,by omega⟩;rw[show clsC key (c+1)=(clsC key c).set c (idN (clsK key c) (key c):Nat)from rfl,sE g,sC g];unfold hCs;rw[i,<-e];rfl;have q:=odf q;obtain rfl:c=256:=by omega
 refine(end_cs _ z256 _ _ _ s b f).mpr ⟨ab _,.dat (ax _),.dat (aq _),ab _,rfl,?_⟩;rw[<-l]
theorem Gy{a b:AU}(h:OkA a)(u:OkA b):WalkF env f46 [.pointer (some ⟨0,0,none⟩),cKp 1 2] (hCp0 z256 a.1 a.2.1 a.2.2 b.1 b.2.1 b.2.2) (.tuple ⟨[]⟩) (hCpE (clsC (keyP a.2.2 b.2.2) 256) (clsI (keyP a.2.2 b.2.2) 256) a.1 a.2.1 a.2.2 b.1 b.2.1 b.2.2):=by
 obtain⟨s,i,l⟩:=a;obtain⟨o,e,f⟩:=b;refine aC sX (d:=2) (ns:=[]) (zs:=[]) (ws:=[]) ((jCp_nf _ z256 s i l o e f).mpr ⟨ab _,.dat (ax _),.dat (aq _),.dat (ax _),.dat (aq _),ab [],ab [],?_⟩);generalize r:keyP l f=key;refine LAtZ.stepF sX [(.cell 0 256,3,1)] [] [] [0,1,4,10] (by kernel_rfl) (λk F A=>∃ c:Nat,F=frCp c/\A=hCp (clsC key c) (clsI key c) (clsK key c) s i l o e f/\c+k=256) ?_ (k:=256) ⟨0,rfl,rfl,by omega⟩;rintro k F A ⟨c,rfl,rfl,t⟩;have p:=eK key c;have m:=sG key c;have j:=gZ key c;refine(EF _ _ z256 _ _ _ s i l o e f c).mpr (Sp.intro (λq=>?_) (λq=>?_));have q:=odt q;rw[bd,bd,D',r];have v:Vs (ByteArray.mk (Array.mk (key c)))=kS (key c):=rfl;rw[v,m,<-j,pB];refine⟨⟨.dat (ax _),.dat (aq _),.dat (ax _),.dat (aq _),.dat (ax _),.dat (aq _),.dat (ax _),.dat (aq _),⟨by rw[bf];rfl,by rw[bf];exact h⟩,⟨by rw[bf];rfl,by rw[bf];exact u⟩,by omega,by omega⟩,(vQ _ _).trans (by rw[pB]),Sp.intro (λg=>?_) (λg=>?_)⟩;have g:¬ key c∈clsK key c:=by simpa using g
 rw[Dw _ _ g,Dy _ _ g,bz,show [Vi (c:Int)]=inV [(c:Int)]from rfl,wx,aF (x:=(c:Int)+1) (by omega) (by omega)];refine⟨uy _ _ g,⟨rfl,by rw[af];omega,by omega,by omega⟩,⟨by omega,by omega⟩,by omega,ab _,.dat (ax _),.dat (aq _),.dat (ax _),.dat (aq _),fF _,ab _,k-1,by omega,c+1,rfl,?_,by omega⟩;rw[sH g,sF g,sD g];unfold hCp;rw[show(clsI key c++[(c:Int)]).length=(clsK key c).length+1 by grind,<-j];rfl;have g:key c∈clsK key c:=by simpa using g
 rw[tC _ _ g,bz,aF (x:=(c:Int)+1) (by omega) (by omega)];refine⟨⟨by omega,by omega⟩,by omega,ab _,.dat (ax _),.dat (aq _),.dat (ax _),.dat (aq _),fF _,ab _,k-1,by omega,c+1,rfl,?_,by omega⟩;rw[show clsC key (c+1)=(clsC key c).set c (idN (clsK key c) (key c):Nat)from rfl,sE g,sC g];unfold hCp;rw[m,<-j];rfl;have q:=odf q;obtain rfl:c=256:=by omega
 refine(end_cp _ z256 _ _ _ s i l o e f).mpr ⟨ab _,.dat (ax _),.dat (aq _),.dat (ax _),.dat (aq _),ab _,rfl,?_⟩;rw[<-r]
abbrev PR:=Int×Int
def prV(k:PR):Value:=.agg ⟨[.int .i64 k.1,.int .i64 k.2]⟩
inductive CF where
 |c0|c1|c2|c3
def CF.id:CF->FuncId
 | .c0=>34
 | .c1=>20
 | .c2=>22
 | .c3=>23
def CF.f:CF->Bool->Bool->Bool
 | .c0,x,y=>bif y then !x else false
 | .c1,x,y=>bif x then y else false
 | .c2,x,y=>bif x then true else y
 | .c3,x,y=>bif x then !y else false
def coX1(g:CF):Lh->Lj
 | [.bool x,.bool y]=>some (.bool (g.f x y))
 |_=>none
def XCv:SX:=⟨env,[],noEl,λ_=>.unroll 0⟩
theorem sV:XCv.Ok:=⟨ai,aD,am,.nil⟩
def jCv0(K:KV)(x y:Bool):Prop:=aN XCv 1 f34 [.bool x,.bool y] ⟨.leaf,0⟩ K
def jCv1(K:KV)(x y:Bool):Prop:=aN XCv 1 f20 [.bool x,.bool y] ⟨.leaf,0⟩ K
def jCv2(K:KV)(x y:Bool):Prop:=aN XCv 1 f22 [.bool x,.bool y] ⟨.leaf,0⟩ K
def jCv3(K:KV)(x y:Bool):Prop:=aN XCv 1 f23 [.bool x,.bool y] ⟨.leaf,0⟩ K
def clV(g:CF):Value:=.func (.func g.id) ⟨[]⟩ ⟨[]⟩
def fnO(g:CF):AObj:=.cells [clV g] 43
def hA3(g:CF)(s:Int)(c:Li)(e:La)(b:Int)(d:Li)(a:La):AH:=⟨(Nd (Nd Lf (some (auC s c e)) Lf) (some (fnO g)) (Nd Lf (some (auC b d a)) Lf)),3⟩
def XSp:SX:=⟨env,[],elT [11,20] [],λ_=>.unroll 0⟩
theorem XSp_ok:XSp.Ok:=⟨ai,aD,am,.nil⟩
def XSs:SX:=⟨env,[],elT [10] [],λ_=>.unroll 0⟩
theorem XSs_ok:XSs.Ok:=⟨ai,aD,am,.nil⟩
def XAs:SX:=⟨env,[],elB,λ_=>.unroll 0⟩
theorem XAs_ok:XAs.Ok:=⟨ai,aD,am,.nil⟩
def XAp:SX:=⟨env,[(34,bg (λ_=>none) (coX1 .c0)),(20,bg (λ_=>none) (coX1 .c1)),(22,bg (λ_=>none) (coX1 .c2)),(23,bg (λ_=>none) (coX1 .c3))],elB,λ_=>.unroll 0⟩
def jSp(K:KV)(x y c:Int)(s:Int)(d:Li)(f:La)(b:Int)(e:Li)(a:La):Prop:=aN XSp 1 f69 [.agg ⟨[.int .i64 x,.int .i64 y]⟩,.int .i64 c,.pointer (some ⟨0,0,none⟩),.pointer (some ⟨1,0,none⟩)] (hA2 s d f b e a) K
def jSs(K:KV)(x y c:Int)(s:Int)(b:Li)(a:La):Prop:=aN XSs 1 f51 [.agg ⟨[.int .i64 x,.int .i64 y]⟩,.int .i64 c,.pointer (some ⟨0,0,none⟩)] (hA1 s b a) K
def jAs(K:KV)(x y:Int)(s:Int)(b:Li)(a:La):Prop:=aN XAs 1 f49 [.agg ⟨[.int .i64 x,.int .i64 y]⟩,.pointer (some ⟨0,0,none⟩)] (hA1 s b a) K
def jAp0(K:KV)(x y:Int)(s:Int)(c:Li)(e:La)(b:Int)(d:Li)(a:La):Prop:=aN XAp 1 f68 [.agg ⟨[.int .i64 x,.int .i64 y]⟩,.pointer (some ⟨0,0,none⟩),.pointer (some ⟨1,0,none⟩),.pointer (some ⟨2,0,none⟩)] (hA3 .c0 s c e b d a) K
def jAp1(K:KV)(x y:Int)(s:Int)(c:Li)(e:La)(b:Int)(d:Li)(a:La):Prop:=aN XAp 1 f68 [.agg ⟨[.int .i64 x,.int .i64 y]⟩,.pointer (some ⟨0,0,none⟩),.pointer (some ⟨1,0,none⟩),.pointer (some ⟨2,0,none⟩)] (hA3 .c1 s c e b d a) K
def jAp2(K:KV)(x y:Int)(s:Int)(c:Li)(e:La)(b:Int)(d:Li)(a:La):Prop:=aN XAp 1 f68 [.agg ⟨[.int .i64 x,.int .i64 y]⟩,.pointer (some ⟨0,0,none⟩),.pointer (some ⟨1,0,none⟩),.pointer (some ⟨2,0,none⟩)] (hA3 .c2 s c e b d a) K
def jAp3(K:KV)(x y:Int)(s:Int)(c:Li)(e:La)(b:Int)(d:Li)(a:La):Prop:=aN XAp 1 f68 [.agg ⟨[.int .i64 x,.int .i64 y]⟩,.pointer (some ⟨0,0,none⟩),.pointer (some ⟨1,0,none⟩),.pointer (some ⟨2,0,none⟩)] (hA3 .c3 s c e b d a) K
end
end Go.T9
