/- A part of the proof. -/
import Derived.Test.YthnclaleojkecaaGreatDoorX1
set_option linter.unusedVariables false
set_option linter.unusedSimpArgs false
set_option linter.unusedSectionVars false
set_option maxRecDepth 1000000
namespace Go.T9
open Go Go.AM Go.Proofs.Tryz
noncomputable section
abbrev _root_.Go.Hh:=@List.take_length
abbrev _root_.Go.Jl:=@Int.fdiv_eq_ediv_of_nonneg
abbrev x_:=λa=>IntKind.wrap .i64 a
abbrev V_:=λa=>Value.slice a 0 18446744073709551620
abbrev K5:=λa=>Sg (AObj.gro [] [] a)
abbrev Lp:=HF (Value.agg ⟨[]⟩)
theorem L3(K:KV)(s:Int)(acc:Li)(nx:La)(c:Int):jCo K s acc nx c=(((0:Int)<=(0:Int)/\0<=IntKind.wrap .i64 (2*Kh nx)/\IntKind.wrap .i64 (2*Kh nx)<=281474976710656/\1*Int.toNat (x_ (2*Kh nx))<=281474976710656)/\K9 nx/\Lp/\LAtZ XCo 1 f37.ntmps (AH.mk Lf 0) (au f37) [1,1,0,1,0] (finK (SX.E XCo) f37.results.toList K) (No (Ns (t_ (M' (Kh nx))) (Vi c) (Sg (V_ (some ⟨0,0,none⟩)))) (No (t_ (M' 0)) (KI (Sg (W_ nx))))) (AH.mk (K5 5) 1)):=by kernel_rfl
theorem jCo_nf:type_of%(by have h:=@L3;revert h;delta j_ t_ x_ V_ W_ M' Kh KI K5 K9 Lp;exact id):=@L3
abbrev b_:=λa b=>Value.slice a b 18446744073709551620
abbrev k_:=λa b=>AObj.gro a [] b
abbrev w_:=λa=>Value.int .u8 a
abbrev J0:=λa=>HF (f_ a)
abbrev Kl:=λa=>b_ (some ⟨0,0,none⟩) a
abbrev KG:=λa b=>Sg (k_ a b)
theorem L4(K:KV)(again:KF)(nx:La)(c:Int)(l:List UInt8)(i:Nat):jCoL K again nx c l i=(Sp (decide ((i:Int)<Kh nx)) ((0<=(i:Int)/\(i:Int)<Kh nx)/\nth (roV nx) i=some (Vd 1 (KA nx i))/\(0<=c/\c<j_ (KA nx i))/\nth (KA nx i) (z_ (Kp c))=some (Vi (aa (KA nx i) (Kp c)))/\(0<=c/\c<j_ (KA nx i))/\nth (KA nx i) (z_ (Kp c))=some (Vi (aa (KA nx i) (Kp c)))/\(List.all [w_ (IntKind.wrap .u8 (aa (KA nx i) (Kp c))),w_ (IntKind.wrap .u8 (Int.fdiv (aa (KA nx i) (Kp c)) 256))] cellv=true/\List.length l+0=List.length (u8v l)/\List.length l+(2:Nat)<=(70368744177664:Nat)/\(List.length l+2)*(1:Nat)<=(140737488355328:Nat))/\K9 nx/\J0 (u8v l++[w_ (IntKind.wrap .u8 (aa (KA nx i) (Kp c))),w_ (IntKind.wrap .u8 (Int.fdiv (aa (KA nx i) (Kp c)) 256))])/\again (No (Ns (t_ (M' (Kh nx))) (Vi c) (Sg (Kl (List.length l+2)))) (No (t_ (v_ ((i:Int)+1))) (KI (Sg (W_ nx))))) (AH.mk (KG (u8v l++[w_ (IntKind.wrap .u8 (aa (KA nx i) (Kp c))),w_ (IntKind.wrap .u8 (Int.fdiv (aa (KA nx i) (Kp c)) 256))]) 5) 1)) (IsB (u8v l) 0 l.length/\K (Vs (aw (u8L (u8v l) 0 l.length))) (AH.mk (KG (u8v l) 5) 1))):=by kernel_rfl
theorem DX:type_of%(by have h:=@L4;revert h;delta b_ f_ j_ k_ t_ v_ w_ z_ B_ W_ M' J0 Kh Kl Kp KA KG KI K9;exact id):=@L4
theorem uo{x:Int}(h:0<=x):IntKind.u8.wrap x=((UInt8.ofNat x.toNat).toNat:Int):=by
 have c:(2:Int) ^ IntKind.u8.bits=256:=by decide
 have b:IntKind.u8.signed=false:=rfl;have a:(UInt8.ofNat x.toNat).toNat=x.toNat%256:=by simp
 unfold IntKind.wrap;rw[c,b,a];simp only[Bool.false_and,HG,HL];omega
theorem pk(l:List UInt8):(u8v l).length=l.length:=Gu _
theorem eL(l r:List UInt8):u8v (l++r)=u8v l++u8v r:=List.map_append
theorem HF_u8(l:List UInt8):HF (.agg ⟨u8v l⟩):=.agg λx a=>by obtain⟨b,_,rfl⟩:=Gv.1 a;exact HFi _ _
theorem u8_isB(l:List UInt8):IsB (u8v l) 0 l.length:=⟨l,by rw[I7,<-pk l,Hh];rfl,rfl⟩
theorem u8_L(l:List UInt8):u8L (u8v l) 0 l.length=l:=by unfold u8L;rw[I7,<-pk l,Hh];exact Ap l
def b2(x:Int):List UInt8:=[UInt8.ofNat x.toNat,UInt8.ofNat (x.fdiv 256).toNat]
def colB(nx:La)(c:Nat):List UInt8:=nx.flatMap λr=>b2 (r.getD c 0)
theorem b2_len(l:La)(c:Nat):(colB l c).length=2*l.length:=by
 induction l with
 |nil=>rfl
 |cons r l a=>unfold colB at*;rw[List.flatMap_cons,Gr,a];simp[b2];omega
theorem b2_inj{x y:Int}(i:0<=x)(c:x<65536)(g:0<=y)(b:y<65536)(h:b2 x=b2 y):x=y:=by unfold b2 at h;simp only[IA,and_true]at h;obtain⟨e,d⟩:=h;have f:=Hu UInt8.toNat e;have a:=Hu UInt8.toNat d;rw[Jl _ (by omega),Jl _ (by omega)]at a;simp at f a;omega
theorem FJ{a:AU}(h:OkA a){c:Nat}(t:c<256):Walk env f37 [auV a,.int .i64 c] (.string (aw (colB a.2.2 c))):=by
 obtain⟨s,l,b⟩:=a;have p:=h.n1;have m:=h.row;have g:=h.ent;dsimp only at p m g;refine gt BH (d:=1) (.scal rfl) ((jCo_nf _ s l b c).mpr ?_);rw[aL,aA (x:=2*(b.length:Int)) (by omega) (by omega)];refine⟨⟨by omega,by omega,by omega,by omega⟩,.dat (aK _),HF_u8 [],?_⟩;refine LAtZ.stepF BH [] [] [] [1,5,14,15,16] (by kernel_rfl) (λk F A=>∃ i:Nat,F=frCo c b (colB (b.take i) c) i/\A=hCo (colB (b.take i) c)/\i+k=b.length) ?_ (k:=b.length) ⟨0,by unfold frCo;rw[aL];rfl,rfl,by omega⟩;rintro k F A ⟨i,rfl,rfl,r⟩;have j:=b2_len (b.take i) c;rw[Hd]at j;refine(DX _ _ b c _ i).mpr ?_;rw[aL];refine Sp.intro (λq=>?_) (λq=>?_);have q:=odt q;have f:i<b.length:=by omega
 have e:c<b[i].length:=by rw[m _ (Gy f)];exact t
 have o:=g _ (Gy f) _ (Gy e);have w:(↑(Int.toNat (c:Int)):Int)=c:=by omega
 have v:[Value.int .u8 (IntKind.wrap .u8 b[i][c]),Value.int .u8 (IntKind.wrap .u8 (Int.fdiv b[i][c] 256))]=u8v (b2 b[i][c]):=by
  have hd:0<=Int.fdiv b[i][c] 256:=by rw[Jl _ (by omega)];omega
  rw[uo o.1,uo hd];rfl
 have n:colB (b.take (i+1)) c=colB (b.take i) c++b2 b[i][c]:=by rw[GU f];unfold colB;rw[List.flatMap_append,List.flatMap_cons,List.flatMap_nil,GA,gD e]
 rw[bM f,w,Gs,aq e,ah,v,pk];have u:(b2 b[i][c]).length=2:=rfl;refine⟨⟨by omega,q⟩,cK f,⟨by omega,by omega⟩,aP e,⟨by omega,by omega⟩,aP e,⟨rfl,by omega,by omega,by omega⟩,.dat (aK _),?_,k-1,by omega,i+1,?_,?_,by omega⟩;rw[<-eL];exact HF_u8 _;rw[aA (x:=(i:Int)+1) (by omega) (by omega),n];unfold frCo;rw[aL,Gr,u];rfl;rw[<-eL,<-n];rfl;have q:=odf q;refine⟨u8_isB _,?_⟩;rw[u8_L,IE (by omega)];rfl
def coX:Lh->Lj
 | [v,.int .i64 c]=>(match auQ v with|some a=>some (.string (aw (colB a.2.2 c.toNat)))|none=>none)
 |_=>none
def coP:Lh->Ll
 | [v,.int .i64 c]=>some (okV v/\0<=c/\c<256)
 |_=>none
theorem co_tab:∀ args A p v A',bD coP coX args A=some (p,v,A')->PH p->CallAt env 37 args A v A':=de am ap (fn:=f37) rfl λargs v h d=>by
 unfold coX at h;split at h;· rename_i u c;obtain⟨⟨b,g⟩,f,i⟩:okV u/\0<=c/\c<256:=d;split at h;rotate_left;cases h;rename_i a e;cases h;rw[ku b e];obtain⟨n,rfl⟩:=H4 f;have:=FJ g (c:=n) (by omega);rw[<-b]at this;exact⟨HF.cons (by rw[b];exact nD _) (HF.cons (HFi _ _) HF.nil),this⟩
 cases h
def auC(s:Int)(acc:Li)(nx:La):AObj:=.cells [.int .i64 s,dat 1 (blV acc),dat 1 (roV nx)] 25
def hA1(s:Int)(acc:Li)(nx:La):AH:=⟨Nd Lf (some (auC s acc nx)) Lf,1⟩
def hA2(s:Int)(acc:Li)(nx:La)(s2:Int)(acc2:Li)(nx2:La):AH:=⟨Nd (Nd Lf (some (auC s2 acc2 nx2)) Lf) (some (auC s acc nx)) Lf,2⟩
def XKy:SX:=⟨env,[(37,bD coP coX)],noEl,λ_=>.unroll 0⟩
theorem XKy_ok:XKy.Ok:=⟨am,aE,ap,.cons co_tab .nil⟩
def jKs(K:KV)(c:Int)(s:Int)(acc:Li)(nx:La):Prop:=bh XKy 1 f36 [.int .i64 c,.pointer (some ⟨0,0,none⟩)] (hA1 s acc nx) K
end
end Go.T9
namespace Go.T9
section
variable {S U:Type}[DecidableEq S] [DecidableEq U] {B:Type}
def addS:List S->List S->List S
 |q,[]=>q
 |q,s::l=>if s∈q then addS q l else addS (q++[s]) l
def exS(sc:S->List S):Nat->List S->Nat->List S
 |0,q,_=>q
 | f+1,q,i=>match q[i]? with
   |none=>q
   |some s=>exS sc f (addS q (sc s)) (i+1)
theorem eG:∀ (l q:List S),∃r,addS q l=q++r
 | [],q=>⟨[],by simp[addS]⟩
 |s::l,q=>by simp only[addS];split;exact eG l q;obtain⟨r,h⟩:=eG l (q++[s]);exact⟨s::r,by rw[h];simp⟩
theorem nA{l q:List S}{s:S}(h:s∈q):s∈addS q l:=by obtain⟨r,a⟩:=eG l q;rw[a];simp[h]
theorem gR:∀ {l q:List S}{s:S},s∈l->s∈addS q l
 |x::l,q,s,h=>by simp only[addS];rcases List.mem_cons.1 h with rfl|h;split;rename_i a;exact nA a;exact nA (by simp);split<;>exact gR h
theorem fB:∀ {l q:List S}{s:S},s∈addS q l->s∈q∨s∈l
 | [],q,s,h=>.inl h
 |x::l,q,s,h=>by simp only[addS]at h;split at h;rcases fB h with h|h;exact .inl h;exact .inr (by simp[h]);rcases fB h with h|h;rcases List.mem_append.1 h with h|h;exact .inl h;simp only[List.mem_singleton]at h;subst h;exact .inr (by simp);exact .inr (by simp[h])
theorem dQ:∀ {l q:List S},q.Nodup->(addS q l).Nodup
 | [],q,h=>h
 |x::l,q,h=>by simp only[addS];split;exact dQ h;rename_i f;refine dQ (List.nodup_append.2 ⟨h,by simp,λa d b c=>?_⟩);simp only[List.mem_singleton]at c;subst c;exact λe=>f (e▸d)
theorem cF:∀ (n:Nat) (l:List Nat),l.Nodup->(∀x∈l,x<n)->l.length<=n
 | 0,l,_,h=>by
  cases l with
  |nil=>simp
  |cons x l=>exact absurd (h x (by simp)) (by omega)
 | n+1,l,hd,h=>by
  have j:=cF n (l.filter λy=> !decide (y=n)) (hd.filter _) λx f=>by
   have b:=List.mem_filter.1 f;have:=h x b.1;have i:¬ x=n:=by simpa using b.2
   omega
  have a:∀ l:List Nat,l.Nodup->l.length<=(l.filter λy=> !decide (y=n)).length+1:=by
   intro l;induction l with
   |nil=>intro _;simp
   |cons x l c=>
   intro hd;rw[List.nodup_cons]at hd;by_cases e:x=n;have g:l.filter (λy=> !decide (y=n))=l:=List.filter_eq_self.2 λy d=>by have:¬ y=n:=λq=>hd.1 (by rw[e,<-q];exact d);simp[this]
   rw[List.filter_cons,g,List.length_cons];split<;>simp;have:=c hd.2;rw[List.filter_cons,if_pos (by simp[e]),List.length_cons,List.length_cons];omega
  have:=a l hd;omega
end
end Go.T9
namespace Go.T9
open Go Go.AM Go.MK Go.Proofs.Tryz
noncomputable section
theorem jKs_nf(K:KV)(c s:Int)(acc:Li)(nx:La):jKs K c s acc nx=((okV (Value.agg (Array.mk [Vi s,Vd 1 (blV acc),Vd 1 (roV nx)]))/\0<=c/\c<256)/\K (Vs (ByteArray.mk (Array.mk (colB (List.map deR (roV nx)) (Int.toNat c))))) (AH.mk (Sg (AObj.cells [Vi s,Vd 1 (blV acc),Vd 1 (roV nx)] 25)) 1)):=by kernel_rfl
abbrev LB:=List UInt8
def keyS(nx:La)(c:Nat):LB:=colB nx c
theorem end_a1(Q:Value->AH->Prop)(s:Int)(acc:Li)(nx:La)(t:ByteArray)(n:Nat):endF env (hA1 s acc nx) [] [] [] Q (.string t) ⟨(hA1 s acc nx).t,n⟩=(HF (dat 1 (blV acc))/\HF (dat 1 (roV nx))/\Q (.string t) (hA1 s acc nx)):=by kernel_rfl
theorem Dk{a:AU}(h:OkA a){c:Nat}(f:c<256):WalkF env f36 [.int .i64 c,.pointer (some ⟨0,0,none⟩)] (hA1 a.1 a.2.1 a.2.2) (.string (aw (keyS a.2.2 c))) (hA1 a.1 a.2.1 a.2.2):=by obtain⟨s,b,e⟩:=a;refine aJ XKy_ok (d:=1) (ns:=[]) (zs:=[]) (ws:=[]) ((jKs_nf _ c s b e).mpr ⟨⟨rg h,by omega,by omega⟩,?_⟩);rw[bX];exact(end_a1 _ s b e _ _).mpr ⟨.dat (aN _),.dat (aK _),rfl,rfl⟩
def auO:AObj->Option AU
 | .cells [.int .i64 s,.func (.yield 1) ⟨bs⟩ ⟨[]⟩,.func (.yield 1) ⟨rs⟩ ⟨[]⟩] e=>bif Nat.beq e 25 then some (s,bs.map deB,rs.map deR)else none
 |_=>none
def auCo(a:AU):AObj:=auC a.1 a.2.1 a.2.2
def okO(o:AObj)(a:AU):Prop:=o=auCo a/\OkA a
def spKs:Lh->List AObj->Option (Ll×Value×List AObj)
 | [.int .i64 c,.pointer (some ⟨B,o,none⟩)],[x]=>(match auO x with
   |some a=>bif Nat.beq B 0&&Nat.beq o 0 then some (some (okO x a/\0<=c/\c<256),.string (aw (keyS a.2.2 c.toNat)),[x])else none
   |none=>none)
 |_,_=>none
theorem pX(a:AU):aW [auCo a]=hA1 a.1 a.2.1 a.2.2:=by kernel_rfl
theorem ks_tab:∀ args A p v A',frmR noAr spKs args A=some (p,v,A')->PH p->CallAt env 36 args A v A':=be am (fn:=f36) rfl λargs e p v d h f=>by unfold spKs at h;split at h;rename_i c B o x;split at h;rename_i a j;cases b:Nat.beq B 0&&Nat.beq o 0;rw[b]at h;cases h;rw[b]at h;simp only[D',osI,Gx]at h;obtain⟨rfl,rfl,rfl⟩:=h;simp only[f',GG]at b;obtain⟨rfl,rfl⟩:=b;obtain⟨⟨rfl,i⟩,g,k⟩:okO x a/\0<=c/\c<256:=f;obtain⟨n,rfl⟩:=H4 g;rw[pX];exact Dk i (by omega);cases h;cases h
section
variable {K:Type}[DecidableEq K]
def idN:List K->K->Nat
 | [],_=>0
 |x::l,k=>if x=k then 0 else idN l k+1
theorem i8{k:K}:∀ {l:List K},¬k∈l->idN l k=l.length
 | [],_=>rfl
 |x::l,h=>by have a:¬ x=k:=λe=>h (by simp[e]);have b:¬ k∈l:=λe=>h (by simp[e]);simp only[idN,C' a,GR,i8 b]
theorem oA{k:K}:∀ {l:List K},k∈l->l[idN l k]? =some k
 | x::l,h=>by
  by_cases e:x=k;simp[idN,e];have:k∈l:=by rcases Gz.1 h with h|h;exact absurd h.symm e;exact h
  simp only[idN,C' e,H0];exact oA this
theorem rT{k:K}{l:List K}(h:k∈l):idN l k<l.length:=(Gw.1 (oA h)).1
theorem pT{k:K}(r:List K):∀ {l:List K},k∈l->idN (l++r) k=idN l k
 | x::l,h=>by
  by_cases e:x=k;simp[idN,e];have:k∈l:=by rcases Gz.1 h with h|h;exact absurd h.symm e;exact h
  simp only[HW,idN,C' e,pT r this]
def mkF:List K->Nat->List (K×Int)
 | [],_=>[]
 |k::l,i=>(k,(i:Int))::mkF l (i+1)
def mkM(l:List K):List (K×Int):=mkF l 0
theorem vy:∀ (l:List K) (i:Nat),(mkF l i).length=l.length
 | [],_=>rfl
 |k::l,i=>by simp[mkF,vy l]
theorem vz(k:K):∀ (l:List K) (i:Nat),aget (mkF l i) k=if k∈l then some (((idN l k+i:Nat)):Int)else none
 | [],i=>rfl
 |x::l,i=>by simp only[mkF,aget];by_cases e:x=k;subst e;simp[idN];rw[C' e,vz k l];have b:k≠x:=λh=>e h.symm;by_cases h:k∈l;have a:idN (x::l) k=idN l k+1:=C' e;rw[E' h,E' (by simp[h]),a];congr 2;omega;rw[C' h,C' (by simp[h,b])]
theorem vx{k:K}:∀ {l:List K}{i:Nat},¬k∈l->aset (mkF l i) k ((l.length+i:Nat):Int)=mkF (l++[k]) i
 | [],i,_=>by simp[mkF,aset]
 |x::l,i,h=>by have a:¬ x=k:=λe=>h (by simp[e]);have b:¬ k∈l:=λe=>h (by simp[e]);have:=vx (l:=l) (i:=i+1) b;simp only[mkF,aset,HW,C' a,GR];rw[<-this];congr 3;omega
theorem ia(l:List K)(k:K):aget (mkM l) k=if k∈l then some ((idN l k:Nat):Int)else none:=vz k l 0
theorem dV{l:List K}{k:K}(h:¬ k∈l):aset (mkM l) k ((l.length:Nat):Int)=mkM (l++[k]):=vx (i:=0) h
theorem dC(l:List K):(mkM l).length=l.length:=vy l 0
end
def vS:Value->LB
 | .string s=>s.data.toList
 |_=>[]
variable {n:Nat}{key:Nat->LB}
def kS(l:LB):Value:=.string (aw l)
abbrev Ents:=Lc
def enS(m:List (LB×Int)):Ents:=ents kS (Value.int .i64) m
def mgS(es:Ents)(k:Value):Int:=(aget (inv vS deI es) (vS k)).getD 0
def mhS(es:Ents)(k:Value):Bool:=(aget (inv vS deI es) (vS k)).isSome
def msS(es:Ents)(k v:Value):Ents:=enS (aset (inv vS deI es) (vS k) (deI v))
def mnS(es:Ents)(k v:Value):Nat:=(aset (inv vS deI es) (vS k) (deI v)).length
theorem Fi(a b:LB):eqL a b=decide (a=b):=by
 cases h:eqL a b with
 |true=>simp[(ez a b).1 h]
 |false=>by_cases e:a=b;rw[(ez a b).2 e]at h;cases h;simp[e]
theorem koS:KeyOk env 86 9 3 kS (.int .i64 0):=⟨by kernel_rfl,λ_=>rfl,λc k=>by cases c<;>kernel_rfl,⟨.string,by kernel_rfl,.inl λa b=>by show some (eqL a b)=_;rw[Fi]⟩,λk=>by simp[kS,Instr.sameBits,kl,(ez _ _).2 rfl],⟨_,rfl,rfl,rfl⟩⟩
theorem invS(m:List (LB×Int)):inv vS deI (enS m)=m:=mA (λ_=>rfl) (λ_=>rfl) m
theorem zf(m:List (LB×Int))(k:LB):cu env 86 (enS m) (kS k)=some (.int .i64 (mgS (enS m) (kS k)),mhS (enS m) (kS k)):=by refine(jX koS (Value.int .i64) k m).trans ?_;unfold mgS mhS;rw[invS];show _=some (Value.int .i64 ((aget m k).getD 0),(aget m k).isSome);cases aget m k<;>rfl
theorem updS(m:List (LB×Int))(k:LB)(v:Int):ba env 86 (enS m) m.length (kS k) (.int .i64 v)=some (enS (aset m k v),(aset m k v).length):=lJ koS (Value.int .i64) k v m
theorem gS(m:List (LB×Int)):HF (.agg ⟨(enS m).map λx=>x.2.1⟩):=qB (λv=>.scal rfl) m
def arD:TypeId->Lk:=λt=>bif Nat.beq t 71 then some 256 else none
def elCl:El:={El.of (λ_ _ els i=>some (.int .i64 (aa els i)))with app:=true,gm:=λ_=>true,ml:=λ_ es k=>some (.int .i64 (mgS es k),mhS es k),mu:=λ_ es _ k v=>some (msS es k v,mnS es k v)}
def XCl:SX:=⟨env,[(36,frmR noAr spKs)],elCl,λ_=>.autoN [(.cell 0 256,3,1)] [] [] [0,1,4,10]⟩
theorem BI:XCl.Ok:=⟨am,aE,ap,.cons ks_tab .nil⟩
def nilS:Value:=.slice none 0 0
def groS(B n:Nat):Value:=.slice (some ⟨B,0,none⟩) n (unk+3+1)
def cKs(B:Nat):Value:=.func (.func 36) ⟨[]⟩ ⟨[.pointer (some ⟨B,0,none⟩)]⟩
def dfO(C:Le)(r:Lh):AObj:=.arr (inV C) r 256 71
def hCs0(C:Le)(s:Int)(acc:Li)(nx:La):AH:=⟨Nd (Nd Lf (some (auC s acc nx)) Lf) (some (dfO C [nilS,nilS,nilS])) Lf,2⟩
def hCs(C F:Le)(ks:List LB)(s:Int)(acc:Li)(nx:La):AH:=⟨(Nd (Nd (Nd Lf (some (.gro (inV F) [] 3)) Lf) (some (auC s acc nx)) Lf) (some (dfO C [groS 3 F.length,nilS,nilS])) (Nd Lf (some (.map (enS (mkM ks)) ks.length)) Lf)),4⟩
def frCs(c:Nat):T Value:=(Nd (Nd Lf (some (cKs 1)) Lf) (some (.pointer (some ⟨0,0,none⟩))) (Nd (Nd Lf (some (.map (some 2))) Lf) none (Nd (Nd Lf (some (.int .i64 c)) Lf) none Lf)))
def kFinCl(K:KV):KX:=finK XCl.E (f35.results).toList K
def jCs(K:KV)(C:Le)(s:Int)(acc:Li)(nx:La):Prop:=bh XCl 2 f35 [.pointer (some ⟨0,0,none⟩),cKs 1] (hCs0 C s acc nx) K
def jCsL(K:KV)(again:KF)(C0 C F:Le)(ks:List LB)(s:Int)(acc:Li)(nx:La)(c:Nat):Prop:=aI XCl 2 (Func.ntmps f35) (hCs0 C0 s acc nx) (au f35) [1,1,0] (kFinCl K) [(.cell 0 256,3,1)] [] [] [0,1,4,10] again (frCs c) (hCs C F ks s acc nx)
abbrev A_:=Value.slice none 0 0
abbrev I_:=λa=>HF (f_ (inV a))
abbrev J_:=λa=>Value.map (some a)
abbrev Y':=λa b=>AObj.map a b
abbrev Kn:=λa b=>V_ (some ⟨a,b,none⟩)
theorem L5(K:KV)(C:Le)(s:Int)(acc:Li)(nx:La):jCs K C s acc nx=(I_ C/\V' acc/\K9 nx/\Lp/\Lp/\LAtZ XCl 2 f35.ntmps (hCs0 C s acc nx) (au f35) [1,1,0] (finK (SX.E XCl) f35.results.toList K) (Ns (Sg (o_ 36 [] [c_ 1 0])) h_ (No (Sg (J_ 2)) (F_ (Vi 0)))) (Q_ (Kd (K5 3) (l_ s acc nx)) (AObj.arr (inV C) [Kn 3 0,A_,A_] 256 71) (Sg (Y' [] 0)) 4)):=by kernel_rfl
theorem jCs_nf:type_of%(by have h:=@L5;revert h;delta c_ f_ h_ l_ o_ A_ F_ I_ J_ Q_ V_ W_ V' Y' Kd Kn K5 K9 Lp;exact id):=@L5
abbrev e_:=λa=>AObj.gro (inV a) [] 3
abbrev g_:=λa b c=>b_ (some ⟨a,b,none⟩) c
abbrev J3:=λa=>Sg (e_ a)
abbrev J5:=λa b=>Vs (ByteArray.mk (Array.mk (keyS (p_ a) (z_ b))))
abbrev J6:=Value.tuple ⟨[]⟩
abbrev Kz:=λa=>enS (mkM a)
theorem L6(K:KV)(again:KF)(C0:Le)(C:Le)(F:Le)(ks:List LB)(s:Int)(acc:Li)(nx:La)(c:Nat):jCsL K again C0 C F ks s acc nx c=(Sp (decide ((c:Int)<256)) (HFs [O' acc,W_ nx,O' acc,W_ nx] (PH (Prod.fst (some (okO (l_ s acc nx) (s,u_ acc,p_ nx)/\0<=(c:Int)/\(c:Int)<256),J5 nx c,[l_ s acc nx])))/\cu (SX.E XCl) 86 (Kz ks) (J5 nx c)=some (Vi (mgS (Kz ks) (J5 nx c)),mhS (Kz ks) (J5 nx c))/\Sp (! mhS (Kz ks) (J5 nx c)) (ba (SX.E XCl) 86 (Kz ks) ks.length (J5 nx c) (KM F.length)=some (msS (Kz ks) (J5 nx c) (KM F.length),mnS (Kz ks) (J5 nx c) (KM F.length))/\(List.all [Vi c] cellv=true/\List.length F+0=List.length (inV F)/\List.length F+(1:Nat)<=(70368744177664:Nat)/\(List.length F+1)*(8:Nat)<=(140737488355328:Nat))/\(0<=(c:Int)/\(c:Int)<256)/\c<256/\J0 (List.set (inV C) c (KM F.length))/\V' acc/\K9 nx/\J0 (mvl (msS (Kz ks) (J5 nx c) (KM F.length)))/\J0 (inV F++[Vi c])/\again (Ns (Sg (o_ 36 [] [c_ 1 0])) h_ (No (Sg (J_ 2)) (No (v_ ((c:Int)+1)) Lf))) (Q_ (Kd (KG (inV F++[Vi c]) 3) (l_ s acc nx)) (AObj.arr (List.set (inV C) c (KM F.length)) [g_ 3 0 (List.length F+1),A_,A_] 256 71) (Sg (Y' (msS (Kz ks) (J5 nx c) (KM F.length)) (mnS (Kz ks) (J5 nx c) (KM F.length)))) 4)) ((0<=(c:Int)/\(c:Int)<256)/\c<256/\J0 (List.set (inV C) c (Vi (mgS (Kz ks) (J5 nx c))))/\V' acc/\K9 nx/\J0 (mvl (Kz ks))/\I_ F/\again (Ns (Sg (o_ 36 [] [c_ 1 0])) h_ (No (Sg (J_ 2)) (No (v_ ((c:Int)+1)) Lf))) (Q_ (Kd (J3 F) (l_ s acc nx)) (AObj.arr (List.set (inV C) c (Vi (mgS (Kz ks) (J5 nx c)))) [g_ 3 0 F.length,A_,A_] 256 71) (Sg (Y' (Kz ks) ks.length)) 4))) (K J6 (Q_ (Kd (J3 F) (l_ s acc nx)) (AObj.arr (inV C) [g_ 3 0 F.length,A_,A_] 256 71) (Sg (Y' (Kz ks) ks.length)) 4))):=by kernel_rfl
theorem DT:type_of%(by have h:=@L6;revert h;delta b_ c_ e_ f_ g_ h_ k_ l_ o_ p_ u_ v_ z_ A_ B_ I_ J_ Q_ W_ O' V' Y' J0 J3 J5 J6 Kd Kz KG KM K9;exact id):=@L6
def clsF(key:Nat->LB):Nat->Lg
 |0=>[]
 |n+1=>if key n∈(clsF key n).map key then clsF key n else clsF key n++[n]
def clsK(key:Nat->LB)(n:Nat):List LB:=(clsF key n).map key
def clsC(key:Nat->LB):Nat->Le
 |0=>List.replicate 256 0
 |n+1=>(clsC key n).set n (idN (clsK key n) (key n):Nat)
def clsI(key:Nat->LB)(n:Nat):Le:=(clsF key n).map Int.ofNat
theorem gd(key:Nat->LB):∀ n,∀x∈clsF key n,x<n
 |0,x,h=>by simp[clsF]at h
 |n+1,x,h=>by unfold clsF at h;split at h;have:=gd key n x h;omega;rcases GS.1 h with h|h;have:=gd key n x h;omega;simp at h;omega
theorem je(key:Nat->LB):∀ n,(clsF key n).length<=n
 |0=>by simp[clsF]
 |n+1=>by have:=je key n;unfold clsF;split;omega;rw[Gr];simp;omega
theorem jd(key:Nat->LB)(n:Nat):(clsK key n).length=(clsF key n).length:=Gu _
theorem z1(key:Nat->LB)(n:Nat):(clsI key n).length=(clsF key n).length:=Gu _
theorem m8(key:Nat->LB):∀ n,(clsC key n).length=256
 |0=>by simp[clsC]
 |n+1=>by simp[clsC,m8 key n]
theorem ab(l:Le):HF (.agg ⟨inV l⟩):=.agg (ph l)
theorem ce(l:Le)(i:Nat)(x:Int):(inV l).set i (.int .i64 x)=inV (l.set i x):=by unfold inV;rw[List.map_set]
theorem Eo(l r:Le):inV l++inV r=inV (l++r):=by unfold inV;rw[List.map_append]
theorem vA(ks:List LB)(k:LB):mhS (enS (mkM ks)) (kS k)=decide (k∈ks):=by unfold mhS;rw[invS];show(aget (mkM ks) k).isSome=_;rw[ia];by_cases h:k∈ks<;>simp[h]
theorem vB(ks:List LB)(k:LB)(h:k∈ks):mgS (enS (mkM ks)) (kS k)=(idN ks k:Nat):=by unfold mgS;rw[invS];show(aget (mkM ks) k).getD 0=_;rw[ia,E' h];rfl
theorem msS_e(ks:List LB)(k:LB)(h:¬ k∈ks):msS (enS (mkM ks)) (kS k) (.int .i64 (ks.length:Nat))=enS (mkM (ks++[k])):=by unfold msS;rw[invS];show enS (aset (mkM ks) k ((ks.length:Nat):Int))=_;rw[dV h]
theorem mnS_e(ks:List LB)(k:LB)(h:¬ k∈ks):mnS (enS (mkM ks)) (kS k) (.int .i64 (ks.length:Nat))=(ks++[k]).length:=by unfold mnS;rw[invS];show(aset (mkM ks) k ((ks.length:Nat):Int)).length=_;rw[dV h,dC]
theorem Ao(ks:List LB)(k:LB)(h:¬ k∈ks):ba env 86 (enS (mkM ks)) ks.length (kS k) (.int .i64 (ks.length:Nat))=some (enS (mkM (ks++[k])),(ks++[k]).length):=by have:=updS (mkM ks) k (ks.length:Nat);rw[dC,dV h,dC]at this;exact this
theorem gJ(h:key n∈clsK key n):clsF key (n+1)=clsF key n:=E' h
theorem gK(h:¬ key n∈clsK key n):clsF key (n+1)=clsF key n++[n]:=C' h
theorem zY(h:¬ key n∈clsK key n):clsK key (n+1)=clsK key n++[key n]:=by show(clsF key (n+1)).map key=_;rw[gK h,List.map_append];rfl
theorem zX(h:key n∈clsK key n):clsK key (n+1)=clsK key n:=by show(clsF key (n+1)).map key=_;rw[gJ h];rfl
theorem z0(h:¬ key n∈clsK key n):clsI key (n+1)=clsI key n++[(n:Int)]:=by show(clsF key (n+1)).map _=_;rw[gK h,List.map_append];rfl
theorem zZ(h:key n∈clsK key n):clsI key (n+1)=clsI key n:=by show(clsF key (n+1)).map _=_;rw[gJ h];rfl
theorem z3(h:¬ key n∈clsK key n):clsC key (n+1)=(clsC key n).set n ((clsF key n).length:Nat):=by show(clsC key n).set n _=_;rw[i8 h,jd]
def hCsE(C F:Le)(s:Int)(acc:Li)(nx:La):AH:=⟨(Nd (Nd Lf (some (auC s acc nx)) Lf) (some (dfO C [groS 2 F.length,nilS,nilS])) (Nd Lf (some (.gro (inV F) [] 3)) Lf)),3⟩
theorem end_cs(Q:Value->AH->Prop)(a C F:Le)(ks:List LB)(s:Int)(acc:Li)(nx:La):endF env (hCs0 a s acc nx) [] [] [] Q (.tuple ⟨[]⟩) (hCs C F ks s acc nx)=(HF (.agg ⟨inV C⟩)/\HF (dat 1 (blV acc))/\HF (dat 1 (roV nx))/\HF (.agg ⟨inV F⟩)/\Q (.tuple ⟨[]⟩) (hCsE C F s acc nx)):=by kernel_rfl
def z256:Le:=List.replicate 256 0
theorem FD{a:AU}(h:OkA a):WalkF env f35 [.pointer (some ⟨0,0,none⟩),cKs 1] (hCs0 z256 a.1 a.2.1 a.2.2) (.tuple ⟨[]⟩) (hCsE (clsC (keyS a.2.2) 256) (clsI (keyS a.2.2) 256) a.1 a.2.1 a.2.2):=by
 obtain⟨s,e,i⟩:=a;refine aJ BI (d:=2) (ns:=[]) (zs:=[]) (ws:=[]) ((jCs_nf _ z256 s e i).mpr ⟨ab _,.dat (aN _),.dat (aK _),ab [],ab [],?_⟩);generalize l:keyS i=key;refine LAtZ.stepF BI [(.cell 0 256,3,1)] [] [] [0,1,4,10] (by kernel_rfl) (λk F A=>∃ c:Nat,F=frCs c/\A=hCs (clsC key c) (clsI key c) (clsK key c) s e i/\c+k=256) ?_ (k:=256) ⟨0,rfl,rfl,by omega⟩;rintro k F A ⟨c,rfl,rfl,m⟩;have j:=je key c;have f:=z1 key c;have b:=jd key c;refine(DT _ _ z256 _ _ _ s e i c).mpr (Sp.intro (λq=>?_) (λq=>?_));have q:=odt q;rw[bX,Gs,l];have o:Vs (ByteArray.mk (Array.mk (key c)))=kS (key c):=rfl;rw[o,f,<-b,vA];refine⟨⟨.dat (aN _),.dat (aK _),.dat (aN _),.dat (aK _),⟨by rw[cx];rfl,by rw[cx];exact h⟩,by omega,by omega⟩,(zf _ _).trans (by rw[vA]),Sp.intro (λg=>?_) (λg=>?_)⟩;have g:¬ key c∈clsK key c:=by simpa using g
 rw[msS_e _ _ g,mnS_e _ _ g,ce,show [Vi (c:Int)]=inV [(c:Int)]from rfl,Eo,aA (x:=(c:Int)+1) (by omega) (by omega)];refine⟨Ao _ _ g,⟨rfl,by rw[ah];omega,by omega,by omega⟩,⟨by omega,by omega⟩,by omega,ab _,.dat (aN _),.dat (aK _),gS _,ab _,k-1,by omega,c+1,rfl,?_,by omega⟩;rw[z3 g,z0 g,zY g];unfold hCs;rw[show(clsI key c++[(c:Int)]).length=(clsK key c).length+1 by rw[Gr,f,<-b];rfl,<-b];rfl;have g:key c∈clsK key c:=by simpa using g
 rw[vB _ _ g,ce,aA (x:=(c:Int)+1) (by omega) (by omega)];refine⟨⟨by omega,by omega⟩,by omega,ab _,.dat (aN _),.dat (aK _),gS _,ab _,k-1,by omega,c+1,rfl,?_,by omega⟩;rw[show clsC key (c+1)=(clsC key c).set c (idN (clsK key c) (key c):Nat)from rfl,zZ g,zX g];unfold hCs;rw[f,<-b];rfl;have q:=odf q;obtain rfl:c=256:=by omega
 refine(end_cs _ z256 _ _ _ s e i).mpr ⟨ab _,.dat (aN _),.dat (aK _),ab _,rfl,?_⟩;rw[<-l]
abbrev PR:=Int×Int
def prV(k:PR):Value:=.agg ⟨[.int .i64 k.1,.int .i64 k.2]⟩
def XSs:SX:=⟨env,[],elT [10] [],λ_=>.unroll 0⟩
theorem XSs_ok:XSs.Ok:=⟨am,aE,ap,.nil⟩
def XAs:SX:=⟨env,[],elB,λ_=>.unroll 0⟩
theorem XAs_ok:XAs.Ok:=⟨am,aE,ap,.nil⟩
def jSs(K:KV)(x y c:Int)(s:Int)(acc:Li)(nx:La):Prop:=bh XSs 1 f40 [.agg ⟨[.int .i64 x,.int .i64 y]⟩,.int .i64 c,.pointer (some ⟨0,0,none⟩)] (hA1 s acc nx) K
def jAs(K:KV)(x y:Int)(s:Int)(acc:Li)(nx:La):Prop:=bh XAs 1 f38 [.agg ⟨[.int .i64 x,.int .i64 y]⟩,.pointer (some ⟨0,0,none⟩)] (hA1 s acc nx) K
end
end Go.T9
