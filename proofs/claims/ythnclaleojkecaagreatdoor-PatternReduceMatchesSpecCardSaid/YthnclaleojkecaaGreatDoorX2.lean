/- A part of the proof. -/
import Derived.Test.YthnclaleojkecaaGreatDoorX1
set_option linter.unusedVariables false
set_option linter.unusedSimpArgs false
set_option linter.unusedSectionVars false
set_option maxRecDepth 1000000
namespace Go.T9
open Go Go.AM Go.Proofs.Tryz
noncomputable section
abbrev _root_.Go.GO:=@List.take_length
abbrev _root_.Go.I2:=@Int.fdiv_eq_ediv_of_nonneg
abbrev B_:=λa=>IntKind.wrap .i64 a
abbrev M':=λa=>Value.slice a 0 18446744073709551620
abbrev Kz:=λa=>Sg (AObj.gro [] [] a)
abbrev KI:=HF (Value.agg ⟨[]⟩)
theorem Lp(K:KV)(s:Int)(acc:Li)(nx:La)(c:Int):jCo K s acc nx c=(((0:Int)<=(0:Int)/\0<=IntKind.wrap .i64 (2*JW nx)/\IntKind.wrap .i64 (2*JW nx)<=281474976710656/\1*Int.toNat (B_ (2*JW nx))<=281474976710656)/\HF (U' nx)/\KI/\LAtZ XCo 1 f37.ntmps (AH.mk Lf 0) (aw f37) [1,1,0,1,0] (finK (SX.E XCo) f37.results.toList K) (No (Ns (q_ (S_ (JW nx))) (Vi c) (Sg (M' (some ⟨0,0,none⟩)))) (No (q_ (S_ 0)) (Kk (Sg (U' nx))))) (AH.mk (Kz 5) 1)):=by kernel_rfl
theorem jCo_nf:type_of%(by have h:=@Lp;revert h;delta j_ q_ B_ S_ M' U' JW Kk Kz KI;exact id):=@Lp
abbrev b_:=λa b=>Value.slice a b 18446744073709551620
abbrev k_:=λa b=>AObj.gro a [] b
abbrev z_:=λa=>Value.int .u8 a
abbrev QJ:=λa=>HF (f_ a)
abbrev JX:=λa=>b_ (some ⟨0,0,none⟩) a
abbrev JY:=λa b=>Sg (k_ a b)
theorem Lq(K:KV)(again:KF)(nx:La)(c:Int)(l:List UInt8)(i:Nat):jCoL K again nx c l i=(Sp (decide ((i:Int)<JW nx)) ((0<=(i:Int)/\(i:Int)<JW nx)/\nth (roV nx) i=some (Vd 1 (Kc nx i))/\(0<=c/\c<j_ (Kc nx i))/\nth (Kc nx i) (x_ (H_ (x_ c)))=some (Vi (aa (Kc nx i) (H_ (x_ c))))/\(0<=c/\c<j_ (Kc nx i))/\nth (Kc nx i) (x_ (H_ (x_ c)))=some (Vi (aa (Kc nx i) (H_ (x_ c))))/\(List.all [z_ (IntKind.wrap .u8 (aa (Kc nx i) (H_ (x_ c)))),z_ (IntKind.wrap .u8 (Int.fdiv (aa (Kc nx i) (H_ (x_ c))) 256))] cellv=true/\List.length l+0=List.length (u8v l)/\List.length l+(2:Nat)<=(70368744177664:Nat)/\(List.length l+2)*(1:Nat)<=(140737488355328:Nat))/\HF (U' nx)/\QJ (u8v l++[z_ (IntKind.wrap .u8 (aa (Kc nx i) (H_ (x_ c)))),z_ (IntKind.wrap .u8 (Int.fdiv (aa (Kc nx i) (H_ (x_ c))) 256))])/\again (No (Ns (q_ (S_ (JW nx))) (Vi c) (Sg (JX (List.length l+2)))) (No (q_ (y_ ((i:Int)+1))) (Kk (Sg (U' nx))))) (AH.mk (JY (u8v l++[z_ (IntKind.wrap .u8 (aa (Kc nx i) (H_ (x_ c)))),z_ (IntKind.wrap .u8 (Int.fdiv (aa (Kc nx i) (H_ (x_ c))) 256))]) 5) 1)) (IsB (u8v l) 0 l.length/\K (Vs (av (u8L (u8v l) 0 l.length))) (AH.mk (JY (u8v l) 5) 1))):=by kernel_rfl
theorem DL:type_of%(by have h:=@Lq;revert h;delta b_ f_ j_ k_ q_ x_ y_ z_ H_ S_ U' QJ JW JX JY Kc Kk;exact id):=@Lq
theorem ug{x:Int}(h:0<=x):IntKind.u8.wrap x=((UInt8.ofNat x.toNat).toNat:Int):=by
 have c:(2:Int) ^ IntKind.u8.bits=256:=by decide
 have b:IntKind.u8.signed=false:=rfl;have a:(UInt8.ofNat x.toNat).toNat=x.toNat%256:=by simp
 unfold IntKind.wrap;rw[c,b,a];simp only[Bool.false_and,Hl,Hn];omega
theorem pb(l:List UInt8):(u8v l).length=l.length:=F7 _
theorem eE(l r:List UInt8):u8v (l++r)=u8v l++u8v r:=List.map_append
theorem HF_u8(l:List UInt8):HF (.agg ⟨u8v l⟩):=.agg λx a=>by obtain⟨b,_,rfl⟩:=F8.1 a;exact HFi _ _
theorem u8_isB(l:List UInt8):IsB (u8v l) 0 l.length:=⟨l,by rw[IK,<-pb l,GO];rfl,rfl⟩
theorem u8_L(l:List UInt8):u8L (u8v l) 0 l.length=l:=by unfold u8L;rw[IK,<-pb l,GO];exact Ab l
def b2(x:Int):List UInt8:=[UInt8.ofNat x.toNat,UInt8.ofNat (x.fdiv 256).toNat]
def colB(nx:La)(c:Nat):List UInt8:=nx.flatMap λr=>b2 (r.getD c 0)
theorem b2_len(l:La)(c:Nat):(colB l c).length=2*l.length:=by
 induction l with
 |nil=>rfl
 |cons r l a=>unfold colB at*;rw[List.flatMap_cons,F4,a];simp[b2];omega
theorem b2_inj{x y:Int}(i:0<=x)(c:x<65536)(g:0<=y)(b:y<65536)(h:b2 x=b2 y):x=y:=by unfold b2 at h;simp only[Ie,and_true]at h;obtain⟨e,d⟩:=h;have f:=Ha UInt8.toNat e;have a:=Ha UInt8.toNat d;rw[I2 _ (by omega),I2 _ (by omega)]at a;simp at f a;omega
theorem Fl{a:AU}(h:OkA a){c:Nat}(t:c<256):Walk env f37 [auV a,.int .i64 c] (.string (av (colB a.2.2 c))):=by
 obtain⟨s,l,b⟩:=a;have p:=h.n1;have m:=h.row;have g:=h.ent;dsimp only at p m g;refine jB Bw (d:=1) (.scal rfl) ((jCo_nf _ s l b c).mpr ?_);rw[aH,aD (x:=2*(b.length:Int)) (by omega) (by omega)];refine⟨⟨by omega,by omega,by omega,by omega⟩,.dat (aM _),HF_u8 [],?_⟩;refine LAtZ.stepF Bw [] [] [] [1,5,14,15,16] (by kernel_rfl) (λk F A=>∃ i:Nat,F=frCo c b (colB (b.take i) c) i/\A=hCo (colB (b.take i) c)/\i+k=b.length) ?_ (k:=b.length) ⟨0,by unfold frCo;rw[aH];rfl,rfl,by omega⟩;rintro k F A ⟨i,rfl,rfl,r⟩;have j:=b2_len (b.take i) c;rw[GK]at j;refine(DL _ _ b c _ i).mpr ?_;rw[aH];refine Sp.intro (λq=>?_) (λq=>?_);have q:=odt q;have f:i<b.length:=by omega
 have e:c<b[i].length:=by rw[m _ (Gc f)];exact t
 have o:=g _ (Gc f) _ (Gc e);have w:(↑(Int.toNat (c:Int)):Int)=c:=by omega
 have v:[Value.int .u8 (IntKind.wrap .u8 b[i][c]),Value.int .u8 (IntKind.wrap .u8 (Int.fdiv b[i][c] 256))]=u8v (b2 b[i][c]):=by
  have hd:0<=Int.fdiv b[i][c] 256:=by rw[I2 _ (by omega)];omega
  rw[ug o.1,ug hd];rfl
 have n:colB (b.take (i+1)) c=colB (b.take i) c++b2 b[i][c]:=by rw[Gz f];unfold colB;rw[List.flatMap_append,List.flatMap_cons,List.flatMap_nil,Ge,gD e]
 rw[bL f,w,F5,aq e,ah,v,pb];have u:(b2 b[i][c]).length=2:=rfl;refine⟨⟨by omega,q⟩,cK f,⟨by omega,by omega⟩,aN e,⟨by omega,by omega⟩,aN e,⟨rfl,by omega,by omega,by omega⟩,.dat (aM _),?_,k-1,by omega,i+1,?_,?_,by omega⟩;rw[<-eE];exact HF_u8 _;rw[aD (x:=(i:Int)+1) (by omega) (by omega),n];unfold frCo;rw[aH,F4,u];rfl;rw[<-eE,<-n];rfl;have q:=odf q;refine⟨u8_isB _,?_⟩;rw[u8_L,Ii (by omega)];rfl
def coX:Lh->Lj
 | [v,.int .i64 c]=>(match auQ v with|some a=>some (.string (av (colB a.2.2 c.toNat)))|none=>none)
 |_=>none
def coP:Lh->Ll
 | [v,.int .i64 c]=>some (okV v/\0<=c/\c<256)
 |_=>none
theorem co_tab:∀ args A p v A',bN coP coX args A=some (p,v,A')->PH p->CallAt env 37 args A v A':=de ak ap (fn:=f37) rfl λargs v h d=>by
 unfold coX at h;split at h;· rename_i u c;obtain⟨⟨b,g⟩,f,i⟩:okV u/\0<=c/\c<256:=d;split at h;rotate_left;cases h;rename_i a e;cases h;rw[kg b e];obtain⟨n,rfl⟩:=Hz f;have:=Fl g (c:=n) (by omega);rw[<-b]at this;exact⟨HF.cons (by rw[b];exact np _) (HF.cons (HFi _ _) HF.nil),this⟩
 cases h
def auC(s:Int)(acc:Li)(nx:La):AObj:=.cells [.int .i64 s,dat 1 (blV acc),dat 1 (roV nx)] 25
def hA1(s:Int)(acc:Li)(nx:La):AH:=⟨Nd Lf (some (auC s acc nx)) Lf,1⟩
def hA2(s:Int)(acc:Li)(nx:La)(s2:Int)(acc2:Li)(nx2:La):AH:=⟨Nd (Nd Lf (some (auC s2 acc2 nx2)) Lf) (some (auC s acc nx)) Lf,2⟩
def XKy:SX:=⟨env,[(37,bN coP coX)],noEl,λ_=>.unroll 0⟩
theorem XKy_ok:XKy.Ok:=⟨ak,aF,ap,.cons co_tab .nil⟩
def jKs(K:KV)(c:Int)(s:Int)(acc:Li)(nx:La):Prop:=bp XKy 1 f36 [.int .i64 c,.pointer (some ⟨0,0,none⟩)] (hA1 s acc nx) K
end
end Go.T9
namespace Go.T9
section
variable {S U:Type}[DecidableEq S] [DecidableEq U] {B:Type}
def addS:List S->List S->List S
 |q,[]=>q
 |q,s::l=>if s∈q then addS q l else addS (q++[s]) l
def exS(sc:S->List S):Nat->List S->Nat->List S
 |0,q,_=>q
 | f+1,q,i=>match q[i]? with
   |none=>q
   |some s=>exS sc f (addS q (sc s)) (i+1)
theorem d7:∀ (l q:List S),∃r,addS q l=q++r
 | [],q=>⟨[],by simp[addS]⟩
 |s::l,q=>by simp only[addS];split;exact d7 l q;obtain⟨r,h⟩:=d7 l (q++[s]);exact⟨s::r,by rw[h];simp⟩
theorem nj{l q:List S}{s:S}(h:s∈q):s∈addS q l:=by obtain⟨r,a⟩:=d7 l q;rw[a];simp[h]
theorem gJ:∀ {l q:List S}{s:S},s∈l->s∈addS q l
 |x::l,q,s,h=>by simp only[addS];rcases List.mem_cons.1 h with rfl|h;split;rename_i a;exact nj a;exact nj (by simp);split<;>exact gJ h
theorem ft:∀ {l q:List S}{s:S},s∈addS q l->s∈q∨s∈l
 | [],q,s,h=>.inl h
 |x::l,q,s,h=>by simp only[addS]at h;split at h;rcases ft h with h|h;exact .inl h;exact .inr (by simp[h]);rcases ft h with h|h;rcases List.mem_append.1 h with h|h;exact .inl h;simp only[List.mem_singleton]at h;subst h;exact .inr (by simp);exact .inr (by simp[h])
theorem dO:∀ {l q:List S},q.Nodup->(addS q l).Nodup
 | [],q,h=>h
 |x::l,q,h=>by simp only[addS];split;exact dO h;rename_i f;refine dO (List.nodup_append.2 ⟨h,by simp,λa d b c=>?_⟩);simp only[List.mem_singleton]at c;subst c;exact λe=>f (e▸d)
theorem cE:∀ (n:Nat) (l:List Nat),l.Nodup->(∀x∈l,x<n)->l.length<=n
 | 0,l,_,h=>by
  cases l with
  |nil=>simp
  |cons x l=>exact absurd (h x (by simp)) (by omega)
 | n+1,l,hd,h=>by
  have j:=cE n (l.filter λy=> !decide (y=n)) (hd.filter _) λx f=>by
   have b:=List.mem_filter.1 f;have:=h x b.1;have i:¬ x=n:=by simpa using b.2
   omega
  have a:∀ l:List Nat,l.Nodup->l.length<=(l.filter λy=> !decide (y=n)).length+1:=by
   intro l;induction l with
   |nil=>intro _;simp
   |cons x l c=>
   intro hd;rw[List.nodup_cons]at hd;by_cases e:x=n;have g:l.filter (λy=> !decide (y=n))=l:=List.filter_eq_self.2 λy d=>by have:¬ y=n:=λq=>hd.1 (by rw[e,<-q];exact d);simp[this]
   rw[List.filter_cons,g,List.length_cons];split<;>simp;have:=c hd.2;rw[List.filter_cons,if_pos (by simp[e]),List.length_cons,List.length_cons];omega
  have:=a l hd;omega
end
end Go.T9
namespace Go.T9
open Go Go.AM Go.MK Go.Proofs.Tryz
noncomputable section
theorem jKs_nf(K:KV)(c s:Int)(acc:Li)(nx:La):jKs K c s acc nx=((okV (Value.agg (Array.mk [Vi s,Vd 1 (blV acc),Vd 1 (roV nx)]))/\0<=c/\c<256)/\K (Vs (ByteArray.mk (Array.mk (colB (List.map deR (roV nx)) (Int.toNat c))))) (AH.mk (Sg (AObj.cells [Vi s,Vd 1 (blV acc),Vd 1 (roV nx)] 25)) 1)):=by kernel_rfl
abbrev LB:=List UInt8
def keyS(nx:La)(c:Nat):LB:=colB nx c
theorem end_a1(Q:Value->AH->Prop)(s:Int)(acc:Li)(nx:La)(t:ByteArray)(n:Nat):endF env (hA1 s acc nx) [] [] [] Q (.string t) ⟨(hA1 s acc nx).t,n⟩=(HF (dat 1 (blV acc))/\HF (dat 1 (roV nx))/\Q (.string t) (hA1 s acc nx)):=by kernel_rfl
theorem Dc{a:AU}(h:OkA a){c:Nat}(f:c<256):WalkF env f36 [.int .i64 c,.pointer (some ⟨0,0,none⟩)] (hA1 a.1 a.2.1 a.2.2) (.string (av (keyS a.2.2 c))) (hA1 a.1 a.2.1 a.2.2):=by obtain⟨s,b,e⟩:=a;refine aG XKy_ok (d:=1) (ns:=[]) (zs:=[]) (ws:=[]) ((jKs_nf _ c s b e).mpr ⟨⟨Ay h,by omega,by omega⟩,?_⟩);rw[cg];exact(end_a1 _ s b e _ _).mpr ⟨.dat (aP _),.dat (aM _),rfl,rfl⟩
def auO:AObj->Option AU
 | .cells [.int .i64 s,.func (.yield 1) ⟨bs⟩ ⟨[]⟩,.func (.yield 1) ⟨rs⟩ ⟨[]⟩] e=>bif Nat.beq e 25 then some (s,bs.map deB,rs.map deR)else none
 |_=>none
def auCo(a:AU):AObj:=auC a.1 a.2.1 a.2.2
def okO(o:AObj)(a:AU):Prop:=o=auCo a/\OkA a
def spKs:Lh->List AObj->Option (Ll×Value×List AObj)
 | [.int .i64 c,.pointer (some ⟨B,o,none⟩)],[x]=>(match auO x with
   |some a=>bif Nat.beq B 0&&Nat.beq o 0 then some (some (okO x a/\0<=c/\c<256),.string (av (keyS a.2.2 c.toNat)),[x])else none
   |none=>none)
 |_,_=>none
theorem pP(a:AU):aW [auCo a]=hA1 a.1 a.2.1 a.2.2:=by kernel_rfl
theorem ks_tab:∀ args A p v A',frmR noAr spKs args A=some (p,v,A')->PH p->CallAt env 36 args A v A':=bd ak (fn:=f36) rfl λargs e p v d h f=>by unfold spKs at h;split at h;rename_i c B o x;split at h;rename_i a j;cases b:Nat.beq B 0&&Nat.beq o 0;rw[b]at h;cases h;rw[b]at h;simp only[D',osI,Ga]at h;obtain⟨rfl,rfl,rfl⟩:=h;simp only[f',Gj]at b;obtain⟨rfl,rfl⟩:=b;obtain⟨⟨rfl,i⟩,g,k⟩:okO x a/\0<=c/\c<256:=f;obtain⟨n,rfl⟩:=Hz g;rw[pP];exact Dc i (by omega);cases h;cases h
section
variable {K:Type}[DecidableEq K]
def idN:List K->K->Nat
 | [],_=>0
 |x::l,k=>if x=k then 0 else idN l k+1
theorem iV{k:K}:∀ {l:List K},¬k∈l->idN l k=l.length
 | [],_=>rfl
 |x::l,h=>by have a:¬ x=k:=λe=>h (by simp[e]);have b:¬ k∈l:=λe=>h (by simp[e]);simp only[idN,C' a,Gw,iV b]
theorem ol{k:K}:∀ {l:List K},k∈l->l[idN l k]? =some k
 | x::l,h=>by
  by_cases e:x=k;simp[idN,e];have:k∈l:=by rcases Gd.1 h with h|h;exact absurd h.symm e;exact h
  simp only[idN,C' e,Hy];exact ol this
theorem rF{k:K}{l:List K}(h:k∈l):idN l k<l.length:=(F9.1 (ol h)).1
theorem pJ{k:K}(r:List K):∀ {l:List K},k∈l->idN (l++r) k=idN l k
 | x::l,h=>by
  by_cases e:x=k;simp[idN,e];have:k∈l:=by rcases Gd.1 h with h|h;exact absurd h.symm e;exact h
  simp only[Hu,idN,C' e,pJ r this]
def mkF:List K->Nat->List (K×Int)
 | [],_=>[]
 |k::l,i=>(k,(i:Int))::mkF l (i+1)
def mkM(l:List K):List (K×Int):=mkF l 0
theorem vp:∀ (l:List K) (i:Nat),(mkF l i).length=l.length
 | [],_=>rfl
 |k::l,i=>by simp[mkF,vp l]
theorem vq(k:K):∀ (l:List K) (i:Nat),aget (mkF l i) k=if k∈l then some (((idN l k+i:Nat)):Int)else none
 | [],i=>rfl
 |x::l,i=>by simp only[mkF,aget];by_cases e:x=k;subst e;simp[idN];rw[C' e,vq k l];have b:k≠x:=λh=>e h.symm;by_cases h:k∈l;have a:idN (x::l) k=idN l k+1:=C' e;rw[E' h,E' (by simp[h]),a];congr 2;omega;rw[C' h,C' (by simp[h,b])]
theorem vo{k:K}:∀ {l:List K}{i:Nat},¬k∈l->aset (mkF l i) k ((l.length+i:Nat):Int)=mkF (l++[k]) i
 | [],i,_=>by simp[mkF,aset]
 |x::l,i,h=>by have a:¬ x=k:=λe=>h (by simp[e]);have b:¬ k∈l:=λe=>h (by simp[e]);have:=vo (l:=l) (i:=i+1) b;simp only[mkF,aset,Hu,C' a,Gw];rw[<-this];congr 3;omega
theorem gV(l:List K)(k:K):aget (mkM l) k=if k∈l then some ((idN l k:Nat):Int)else none:=vq k l 0
theorem dT{l:List K}{k:K}(h:¬ k∈l):aset (mkM l) k ((l.length:Nat):Int)=mkM (l++[k]):=vo (i:=0) h
theorem dz(l:List K):(mkM l).length=l.length:=vp l 0
end
def vS:Value->LB
 | .string s=>s.data.toList
 |_=>[]
variable {n:Nat}{key:Nat->LB}
def kS(l:LB):Value:=.string (av l)
abbrev Ents:=Lc
def enS(m:List (LB×Int)):Ents:=ents kS (Value.int .i64) m
def mgS(es:Ents)(k:Value):Int:=(aget (inv vS deI es) (vS k)).getD 0
def mhS(es:Ents)(k:Value):Bool:=(aget (inv vS deI es) (vS k)).isSome
def msS(es:Ents)(k v:Value):Ents:=enS (aset (inv vS deI es) (vS k) (deI v))
def mnS(es:Ents)(k v:Value):Nat:=(aset (inv vS deI es) (vS k) (deI v)).length
theorem EX(a b:LB):eqL a b=decide (a=b):=by
 cases h:eqL a b with
 |true=>simp[(dZ a b).1 h]
 |false=>by_cases e:a=b;rw[(dZ a b).2 e]at h;cases h;simp[e]
theorem koS:KeyOk env 86 9 3 kS (.int .i64 0):=⟨by kernel_rfl,λ_=>rfl,λc k=>by cases c<;>kernel_rfl,⟨.string,by kernel_rfl,.inl λa b=>by show some (eqL a b)=_;rw[EX]⟩,λk=>by simp[kS,Instr.sameBits,j8,(dZ _ _).2 rfl],⟨_,rfl,rfl,rfl⟩⟩
theorem invS(m:List (LB×Int)):inv vS deI (enS m)=m:=mi (λ_=>rfl) (λ_=>rfl) m
theorem y4(m:List (LB×Int))(k:LB):cu env 86 (enS m) (kS k)=some (.int .i64 (mgS (enS m) (kS k)),mhS (enS m) (kS k)):=by refine(jL koS (Value.int .i64) k m).trans ?_;unfold mgS mhS;rw[invS];show _=some (Value.int .i64 ((aget m k).getD 0),(aget m k).isSome);cases aget m k<;>rfl
theorem updS(m:List (LB×Int))(k:LB)(v:Int):ba env 86 (enS m) m.length (kS k) (.int .i64 v)=some (enS (aset m k v),(aset m k v).length):=lA koS (Value.int .i64) k v m
theorem gK(m:List (LB×Int)):HF (.agg ⟨(enS m).map λx=>x.2.1⟩):=qu (λv=>.scal rfl) m
def arD:TypeId->Lk:=λt=>bif Nat.beq t 71 then some 256 else none
def elCl:El:={El.of (λ_ _ els i=>some (.int .i64 (aa els i)))with app:=true,gm:=λ_=>true,ml:=λ_ es k=>some (.int .i64 (mgS es k),mhS es k),mu:=λ_ es _ k v=>some (msS es k v,mnS es k v)}
def XCl:SX:=⟨env,[(36,frmR noAr spKs)],elCl,λ_=>.autoN [(.cell 0 256,3,1)] [] [] [0,1,4,10]⟩
theorem Bx:XCl.Ok:=⟨ak,aF,ap,.cons ks_tab .nil⟩
def nilS:Value:=.slice none 0 0
def groS(B n:Nat):Value:=.slice (some ⟨B,0,none⟩) n (unk+3+1)
def cKs(B:Nat):Value:=.func (.func 36) ⟨[]⟩ ⟨[.pointer (some ⟨B,0,none⟩)]⟩
def dfO(C:Le)(r:Lh):AObj:=.arr (inV C) r 256 71
def hCs0(C:Le)(s:Int)(acc:Li)(nx:La):AH:=⟨Nd (Nd Lf (some (auC s acc nx)) Lf) (some (dfO C [nilS,nilS,nilS])) Lf,2⟩
def hCs(C F:Le)(ks:List LB)(s:Int)(acc:Li)(nx:La):AH:=⟨(Nd (Nd (Nd Lf (some (.gro (inV F) [] 3)) Lf) (some (auC s acc nx)) Lf) (some (dfO C [groS 3 F.length,nilS,nilS])) (Nd Lf (some (.map (enS (mkM ks)) ks.length)) Lf)),4⟩
def frCs(c:Nat):T Value:=(Nd (Nd Lf (some (cKs 1)) Lf) (some (.pointer (some ⟨0,0,none⟩))) (Nd (Nd Lf (some (.map (some 2))) Lf) none (Nd (Nd Lf (some (.int .i64 c)) Lf) none Lf)))
def kFinCl(K:KV):KX:=finK XCl.E (f35.results).toList K
def jCs(K:KV)(C:Le)(s:Int)(acc:Li)(nx:La):Prop:=bp XCl 2 f35 [.pointer (some ⟨0,0,none⟩),cKs 1] (hCs0 C s acc nx) K
def jCsL(K:KV)(again:KF)(C0 C F:Le)(ks:List LB)(s:Int)(acc:Li)(nx:La)(c:Nat):Prop:=aK XCl 2 (Func.ntmps f35) (hCs0 C0 s acc nx) (aw f35) [1,1,0] (kFinCl K) [(.cell 0 256,3,1)] [] [] [0,1,4,10] again (frCs c) (hCs C F ks s acc nx)
abbrev C_:=Value.slice none 0 0
abbrev K_:=λa=>HF (f_ (inV a))
abbrev L_:=λa=>Value.map (some a)
abbrev Y':=λa b=>AObj.map a b
abbrev J0:=λa b=>M' (some ⟨a,b,none⟩)
theorem Lr(K:KV)(C:Le)(s:Int)(acc:Li)(nx:La):jCs K C s acc nx=(K_ C/\JK acc/\HF (U' nx)/\KI/\KI/\LAtZ XCl 2 f35.ntmps (hCs0 C s acc nx) (aw f35) [1,1,0] (finK (SX.E XCl) f35.results.toList K) (Ns (Sg (o_ 36 [] [c_ 1 0])) h_ (No (Sg (L_ 2)) (J6 (S_ 0)))) (R_ (JR (Kz 3) (u_ s acc nx)) (AObj.arr (inV C) [J0 3 0,C_,C_] 256 71) (Sg (Y' [] 0)) 4)):=by kernel_rfl
theorem jCs_nf:type_of%(by have h:=@Lr;revert h;delta c_ f_ h_ m_ o_ u_ C_ K_ L_ R_ S_ M' U' Y' JK JR J0 J6 Kz KI;exact id):=@Lr
abbrev e_:=λa=>AObj.gro (inV a) [] 3
abbrev g_:=λa b c=>b_ (some ⟨a,b,none⟩) c
abbrev JG:=λa=>Sg (e_ a)
abbrev JM:=λa b=>Vs (ByteArray.mk (Array.mk (keyS (r_ a) (x_ b))))
abbrev JN:=Value.tuple ⟨[]⟩
abbrev Kb:=λa=>enS (mkM a)
theorem Ls(K:KV)(again:KF)(C0:Le)(C:Le)(F:Le)(ks:List LB)(s:Int)(acc:Li)(nx:La)(c:Nat):jCsL K again C0 C F ks s acc nx c=(Sp (decide ((c:Int)<256)) (HFs [JF acc,U' nx,JF acc,U' nx] (PH (Prod.fst (some (okO (u_ s acc nx) (s,w_ acc,r_ nx)/\0<=(c:Int)/\(c:Int)<256),JM nx c,[u_ s acc nx])))/\cu (SX.E XCl) 86 (Kb ks) (JM nx c)=some (Vi (mgS (Kb ks) (JM nx c)),mhS (Kb ks) (JM nx c))/\Sp (! mhS (Kb ks) (JM nx c)) (ba (SX.E XCl) 86 (Kb ks) ks.length (JM nx c) (Vi (H_ F.length))=some (msS (Kb ks) (JM nx c) (Vi (H_ F.length)),mnS (Kb ks) (JM nx c) (Vi (H_ F.length)))/\(List.all [Vi c] cellv=true/\List.length F+0=List.length (inV F)/\List.length F+(1:Nat)<=(70368744177664:Nat)/\(List.length F+1)*(8:Nat)<=(140737488355328:Nat))/\(0<=(c:Int)/\(c:Int)<256)/\c<256/\QJ (List.set (inV C) c (Vi (H_ F.length)))/\JK acc/\HF (U' nx)/\QJ (mvl (msS (Kb ks) (JM nx c) (Vi (H_ F.length))))/\QJ (inV F++[Vi c])/\again (Ns (Sg (o_ 36 [] [c_ 1 0])) h_ (No (Sg (L_ 2)) (J6 (y_ ((c:Int)+1))))) (R_ (JR (JY (inV F++[Vi c]) 3) (u_ s acc nx)) (AObj.arr (List.set (inV C) c (Vi (H_ F.length))) [g_ 3 0 (List.length F+1),C_,C_] 256 71) (Sg (Y' (msS (Kb ks) (JM nx c) (Vi (H_ F.length))) (mnS (Kb ks) (JM nx c) (Vi (H_ F.length))))) 4)) ((0<=(c:Int)/\(c:Int)<256)/\c<256/\QJ (List.set (inV C) c (Vi (mgS (Kb ks) (JM nx c))))/\JK acc/\HF (U' nx)/\QJ (mvl (Kb ks))/\K_ F/\again (Ns (Sg (o_ 36 [] [c_ 1 0])) h_ (No (Sg (L_ 2)) (J6 (y_ ((c:Int)+1))))) (R_ (JR (JG F) (u_ s acc nx)) (AObj.arr (List.set (inV C) c (Vi (mgS (Kb ks) (JM nx c)))) [g_ 3 0 F.length,C_,C_] 256 71) (Sg (Y' (Kb ks) ks.length)) 4))) (K JN (R_ (JR (JG F) (u_ s acc nx)) (AObj.arr (inV C) [g_ 3 0 F.length,C_,C_] 256 71) (Sg (Y' (Kb ks) ks.length)) 4))):=by kernel_rfl
theorem DG:type_of%(by have h:=@Ls;revert h;delta b_ c_ e_ f_ g_ h_ k_ m_ o_ r_ u_ w_ x_ y_ C_ H_ K_ L_ R_ U' Y' QJ JF JG JK JM JN JR JY J6 Kb;exact id):=@Ls
def clsF(key:Nat->LB):Nat->Lg
 |0=>[]
 |n+1=>if key n∈(clsF key n).map key then clsF key n else clsF key n++[n]
def clsK(key:Nat->LB)(n:Nat):List LB:=(clsF key n).map key
def clsC(key:Nat->LB):Nat->Le
 |0=>List.replicate 256 0
 |n+1=>(clsC key n).set n (idN (clsK key n) (key n):Nat)
def clsI(key:Nat->LB)(n:Nat):Le:=(clsF key n).map Int.ofNat
theorem fY(key:Nat->LB):∀ n,∀x∈clsF key n,x<n
 |0,x,h=>by simp[clsF]at h
 |n+1,x,h=>by unfold clsF at h;split at h;have:=fY key n x h;omega;rcases Gx.1 h with h|h;have:=fY key n x h;omega;simp at h;omega
theorem i5(key:Nat->LB):∀ n,(clsF key n).length<=n
 |0=>by simp[clsF]
 |n+1=>by have:=i5 key n;unfold clsF;split;omega;rw[F4];simp;omega
theorem i4(key:Nat->LB)(n:Nat):(clsK key n).length=(clsF key n).length:=F7 _
theorem zQ(key:Nat->LB)(n:Nat):(clsI key n).length=(clsF key n).length:=F7 _
theorem mT(key:Nat->LB):∀ n,(clsC key n).length=256
 |0=>by simp[clsC]
 |n+1=>by simp[clsC,mT key n]
theorem ab(l:Le):HF (.agg ⟨inV l⟩):=.agg (o8 l)
theorem cd(l:Le)(i:Nat)(x:Int):(inV l).set i (.int .i64 x)=inV (l.set i x):=by unfold inV;rw[List.map_set]
theorem Eb(l r:Le):inV l++inV r=inV (l++r):=by unfold inV;rw[List.map_append]
theorem vr(ks:List LB)(k:LB):mhS (enS (mkM ks)) (kS k)=decide (k∈ks):=by unfold mhS;rw[invS];show(aget (mkM ks) k).isSome=_;rw[gV];by_cases h:k∈ks<;>simp[h]
theorem vt(ks:List LB)(k:LB)(h:k∈ks):mgS (enS (mkM ks)) (kS k)=(idN ks k:Nat):=by unfold mgS;rw[invS];show(aget (mkM ks) k).getD 0=_;rw[gV,E' h];rfl
theorem msS_e(ks:List LB)(k:LB)(h:¬ k∈ks):msS (enS (mkM ks)) (kS k) (.int .i64 (ks.length:Nat))=enS (mkM (ks++[k])):=by unfold msS;rw[invS];show enS (aset (mkM ks) k ((ks.length:Nat):Int))=_;rw[dT h]
theorem mnS_e(ks:List LB)(k:LB)(h:¬ k∈ks):mnS (enS (mkM ks)) (kS k) (.int .i64 (ks.length:Nat))=(ks++[k]).length:=by unfold mnS;rw[invS];show(aset (mkM ks) k ((ks.length:Nat):Int)).length=_;rw[dT h,dz]
theorem Aa(ks:List LB)(k:LB)(h:¬ k∈ks):ba env 86 (enS (mkM ks)) ks.length (kS k) (.int .i64 (ks.length:Nat))=some (enS (mkM (ks++[k])),(ks++[k]).length):=by have:=updS (mkM ks) k (ks.length:Nat);rw[dz,dT h,dz]at this;exact this
theorem gB(h:key n∈clsK key n):clsF key (n+1)=clsF key n:=E' h
theorem gC(h:¬ key n∈clsK key n):clsF key (n+1)=clsF key n++[n]:=C' h
theorem zN(h:¬ key n∈clsK key n):clsK key (n+1)=clsK key n++[key n]:=by show(clsF key (n+1)).map key=_;rw[gC h,List.map_append];rfl
theorem zM(h:key n∈clsK key n):clsK key (n+1)=clsK key n:=by show(clsF key (n+1)).map key=_;rw[gB h];rfl
theorem zP(h:¬ key n∈clsK key n):clsI key (n+1)=clsI key n++[(n:Int)]:=by show(clsF key (n+1)).map _=_;rw[gC h,List.map_append];rfl
theorem zO(h:key n∈clsK key n):clsI key (n+1)=clsI key n:=by show(clsF key (n+1)).map _=_;rw[gB h];rfl
theorem zR(h:¬ key n∈clsK key n):clsC key (n+1)=(clsC key n).set n ((clsF key n).length:Nat):=by show(clsC key n).set n _=_;rw[iV h,i4]
def hCsE(C F:Le)(s:Int)(acc:Li)(nx:La):AH:=⟨(Nd (Nd Lf (some (auC s acc nx)) Lf) (some (dfO C [groS 2 F.length,nilS,nilS])) (Nd Lf (some (.gro (inV F) [] 3)) Lf)),3⟩
theorem end_cs(Q:Value->AH->Prop)(a C F:Le)(ks:List LB)(s:Int)(acc:Li)(nx:La):endF env (hCs0 a s acc nx) [] [] [] Q (.tuple ⟨[]⟩) (hCs C F ks s acc nx)=(HF (.agg ⟨inV C⟩)/\HF (dat 1 (blV acc))/\HF (dat 1 (roV nx))/\HF (.agg ⟨inV F⟩)/\Q (.tuple ⟨[]⟩) (hCsE C F s acc nx)):=by kernel_rfl
def z256:Le:=List.replicate 256 0
theorem Fi{a:AU}(h:OkA a):WalkF env f35 [.pointer (some ⟨0,0,none⟩),cKs 1] (hCs0 z256 a.1 a.2.1 a.2.2) (.tuple ⟨[]⟩) (hCsE (clsC (keyS a.2.2) 256) (clsI (keyS a.2.2) 256) a.1 a.2.1 a.2.2):=by
 obtain⟨s,e,i⟩:=a;refine aG Bx (d:=2) (ns:=[]) (zs:=[]) (ws:=[]) ((jCs_nf _ z256 s e i).mpr ⟨ab _,.dat (aP _),.dat (aM _),ab [],ab [],?_⟩);generalize l:keyS i=key;refine LAtZ.stepF Bx [(.cell 0 256,3,1)] [] [] [0,1,4,10] (by kernel_rfl) (λk F A=>∃ c:Nat,F=frCs c/\A=hCs (clsC key c) (clsI key c) (clsK key c) s e i/\c+k=256) ?_ (k:=256) ⟨0,rfl,rfl,by omega⟩;rintro k F A ⟨c,rfl,rfl,m⟩;have j:=i5 key c;have f:=zQ key c;have b:=i4 key c;refine(DG _ _ z256 _ _ _ s e i c).mpr (Sp.intro (λq=>?_) (λq=>?_));have q:=odt q;rw[cg,F5,l];have o:Vs (ByteArray.mk (Array.mk (key c)))=kS (key c):=rfl;rw[o,f,<-b,vr];refine⟨⟨.dat (aP _),.dat (aM _),.dat (aP _),.dat (aM _),⟨by rw[cG];rfl,by rw[cG];exact h⟩,by omega,by omega⟩,(y4 _ _).trans (by rw[vr]),Sp.intro (λg=>?_) (λg=>?_)⟩;have g:¬ key c∈clsK key c:=by simpa using g
 rw[msS_e _ _ g,mnS_e _ _ g,cd,show [Vi (c:Int)]=inV [(c:Int)]from rfl,Eb,aD (x:=(c:Int)+1) (by omega) (by omega)];refine⟨Aa _ _ g,⟨rfl,by rw[ah];omega,by omega,by omega⟩,⟨by omega,by omega⟩,by omega,ab _,.dat (aP _),.dat (aM _),gK _,ab _,k-1,by omega,c+1,rfl,?_,by omega⟩;rw[zR g,zP g,zN g];unfold hCs;rw[show(clsI key c++[(c:Int)]).length=(clsK key c).length+1 by rw[F4,f,<-b];rfl,<-b];rfl;have g:key c∈clsK key c:=by simpa using g
 rw[vt _ _ g,cd,aD (x:=(c:Int)+1) (by omega) (by omega)];refine⟨⟨by omega,by omega⟩,by omega,ab _,.dat (aP _),.dat (aM _),gK _,ab _,k-1,by omega,c+1,rfl,?_,by omega⟩;rw[show clsC key (c+1)=(clsC key c).set c (idN (clsK key c) (key c):Nat)from rfl,zO g,zM g];unfold hCs;rw[f,<-b];rfl;have q:=odf q;obtain rfl:c=256:=by omega
 refine(end_cs _ z256 _ _ _ s e i).mpr ⟨ab _,.dat (aP _),.dat (aM _),ab _,rfl,?_⟩;rw[<-l]
abbrev PR:=Int×Int
def prV(k:PR):Value:=.agg ⟨[.int .i64 k.1,.int .i64 k.2]⟩
def XSs:SX:=⟨env,[],elT [10] [],λ_=>.unroll 0⟩
theorem XSs_ok:XSs.Ok:=⟨ak,aF,ap,.nil⟩
def XAs:SX:=⟨env,[],elB,λ_=>.unroll 0⟩
theorem XAs_ok:XAs.Ok:=⟨ak,aF,ap,.nil⟩
def jSs(K:KV)(x y c:Int)(s:Int)(acc:Li)(nx:La):Prop:=bp XSs 1 f40 [.agg ⟨[.int .i64 x,.int .i64 y]⟩,.int .i64 c,.pointer (some ⟨0,0,none⟩)] (hA1 s acc nx) K
def jAs(K:KV)(x y:Int)(s:Int)(acc:Li)(nx:La):Prop:=bp XAs 1 f38 [.agg ⟨[.int .i64 x,.int .i64 y]⟩,.pointer (some ⟨0,0,none⟩)] (hA1 s acc nx) K
end
end Go.T9
