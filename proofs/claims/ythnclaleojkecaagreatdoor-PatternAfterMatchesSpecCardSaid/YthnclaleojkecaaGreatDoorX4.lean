/- A part of the proof. -/
import Derived.Test.YthnclaleojkecaaGreatDoorX3
import Derived.Test.YthnclaleojkecaaGreatDoorX2
import Derived.Test.YthnclaleojkecaaGreatDoorX1
set_option linter.unusedVariables false
set_option linter.unusedSimpArgs false
set_option linter.unusedSectionVars false
set_option maxRecDepth 1000000
namespace Go.T9
open Go Go.AM Go.MK Go.Proofs.Tryz
noncomputable section
def groI(l:Le):AObj:=.gro (inV l) [] 3
def groB(l:Li):AObj:=.gro (blV l) [] 4
def groR(l:La):AObj:=.gro (roV l) [] 37
def Cu(C I:AU->Le):Lh->List AObj->Option (Ll×Value×List AObj)
 | [.pointer (some ⟨B,o,none⟩),.func (.func g) ⟨[]⟩ ⟨[.pointer (some ⟨B1,o1,none⟩)]⟩],[.arr els [.slice none 0 0,.slice none 0 0,.slice none 0 0] n e,u]=>(match auO u with
   | some a=>bif ((Nat.beq B 0&&Nat.beq o 0)&&(Nat.beq B1 1&&Nat.beq o1 0))&&(Nat.beq g 36&&(Nat.beq n 256&&Nat.beq e 71))then
    some (some (els=inV z256/\okO u a),.tuple ⟨[]⟩,[dfO (C a) [groS 2 (I a).length,nilS,nilS],u,groI (I a)])else none
   |_=>none)
 |_,_=>none
def spCs:=Cu (λa=>clsC (keyS a.2.2) 256) (λa=>clsI (keyS a.2.2) 256)
theorem EE(C:Le)(a:AU):aW [dfO C [nilS,nilS,nilS],auCo a]=hCs0 C a.1 a.2.1 a.2.2:=by kernel_rfl
theorem zD(C F:Le)(a:AU):aW [dfO C [groS 2 F.length,nilS,nilS],auCo a,groI F]=hCsE C F a.1 a.2.1 a.2.2:=by kernel_rfl
theorem cs_tab:∀ args A p v A',frmR arD spCs args A=some (p,v,A')->PH p->CallAt env 35 args A v A':=be am (fn:=f35) rfl λargs f p v c h j=>by unfold spCs Cu at h;split at h;rename_i B o g l i d n e u;split at h;rename_i a m;cases b:((Nat.beq B 0&&Nat.beq o 0)&&(Nat.beq l 1&&Nat.beq i 0))&&(Nat.beq g 36&&(Nat.beq n 256&&Nat.beq e 71));rw[b]at h;cases h;rw[b]at h;simp only[D',osI,Gx]at h;obtain⟨rfl,rfl,rfl⟩:=h;simp only[f',GG]at b;obtain⟨⟨⟨rfl,rfl⟩,rfl,rfl⟩,rfl,rfl,rfl⟩:=b;obtain⟨rfl,rfl,k⟩:d=inV z256/\okO u a:=j;rw[zD];exact(EE z256 a)▸FD k;cases h;cases h
def deN(l:Lh):Lg:=l.map λv=>(deI v).toNat
theorem oU(F:Lg):deN (inV (inF F))=F:=by
 unfold deN inV inF;rw[Hp,Hp];conv=>rhs;rw[<-HZ F]
 exact GT λx _=>rfl
def IsF(l:Lh)(n:Nat):Prop:=l=inV (inF (deN l))/\(∀c∈deN l,c<256)/\(deN l).length<=256/\n=(deN l).length
def Ct(Ac:Lg->AU->Li)(Rw:Lg->AU->La):Lh->List AObj->Option (Ll×Value×List AObj)
 | [.pointer (some ⟨B,o,none⟩),.agg ⟨[.int .i64 x,.int .i64 y]⟩,.func (.func g) ⟨[]⟩ ⟨[.pointer (some ⟨B1,o1,none⟩)]⟩,.func (.func g2) ⟨[]⟩ ⟨[.pointer (some ⟨B2,o2,none⟩)]⟩],[.arr els [.slice (some ⟨B3,o3,none⟩) n m,.slice none 0 0,.slice none 0 0] q e,u,.gro l tl e2]=>(match auO u with
   | some a=>bif ((Nat.beq B 0&&Nat.beq o 0)&&((Nat.beq B1 1&&Nat.beq o1 0)&&(Nat.beq B2 1&&Nat.beq o2 0)))&&(((Nat.beq g 38&&Nat.beq g2 40)&&(Nat.beq q 256&&Nat.beq e 71))&&((Nat.beq B3 2&&Nat.beq o3 0)&&(Nat.beq m (unk+3+1)&&Nat.beq e2 3)))then
    some (some (els=inV (els.map deI)/\tl=[]/\IsF l n/\okO u a/\x=a.1/\y=0),.tuple ⟨[]⟩,[.arr els [groS 2 n,groS 3 (Ac (deN l) a).length,groS 4 (Rw (deN l) a).length] q e,u,.gro l [] e2,groB (Ac (deN l) a),groR (Rw (deN l) a)])else none
   |_=>none)
 |_,_=>none
def aceS(F:Lg)(a:AU):Li:=(reS F a).map (acS a)
def rweS(F:Lg)(a:AU):La:=bA (scF F (stS a)) (reS F a) (reS F a).length
def spEs:=Ct aceS rweS
theorem ED(C F:Le)(a:AU):aW [dfO C [groS 2 F.length,nilS,nilS],auCo a,groI F]=hEs0 C F a.1 a.2.1 a.2.2:=by kernel_rfl
theorem zC(C F:Le)(ac:Li)(rw:La)(a:AU):aW [dfO C [groS 2 F.length,groS 3 ac.length,groS 4 rw.length],auCo a,groI F,groB ac,groR rw]=hEsE C F ac rw a.1 a.2.1 a.2.2:=by kernel_rfl
theorem bw{a :Type}{b:Bool}{x y: a}(h:(bif b then some x else none)=some y):b=true/\x=y:=by
 cases b with
 |true=>exact⟨rfl,Hf h⟩
 |false=>cases h
theorem es_tab:∀ args A p v A',frmR arD spEs args A=some (p,v,A')->PH p->CallAt env 39 args A v A':=be am (fn:=f39) rfl λargs d p v c h k=>by unfold spEs Ct at h;split at h;rename_i B o x y g L E H K D b J z n m q e u l j I;split at h;rename_i a G;obtain⟨f,h⟩:=bw h;simp only[Gx]at h;obtain⟨rfl,rfl,rfl⟩:=h;simp only[f',GG]at f;obtain⟨⟨⟨rfl,rfl⟩,⟨rfl,rfl⟩,rfl,rfl⟩,⟨⟨rfl,rfl⟩,rfl,rfl⟩,⟨rfl,rfl⟩,rfl,rfl⟩:=f;obtain⟨i,rfl,⟨w,t,s,rfl⟩,⟨rfl,r⟩,rfl,rfl⟩:b=inV (b.map deI)/\j=[]/\IsF l n/\okO u a/\x=a.1/\y=0:=k;generalize b.map deI=C at i;subst i;generalize deN l=F at*;subst w;have:=Fh C F t s r;rw[<-ED,<-zC,ao]at this;exact this;cases h;cases h
def XSiG(C I:AU->Le)(Ac:Lg->AU->Li)(Rw:Lg->AU->La):SX:=⟨env,[(35,frmR arD (Cu C I)),(39,frmR arD (Ct Ac Rw))],noEl,λ_=>.unroll 0⟩
def XSi:SX:=XSiG (λa=>clsC (keyS a.2.2) 256) (λa=>clsI (keyS a.2.2) 256) aceS rweS
theorem XSi_ok:XSi.Ok:=⟨am,aE,ap,.cons cs_tab (.cons es_tab .nil)⟩
def jSi(Q:Value->AH->Prop)(C I:AU->Le)(Ac:Lg->AU->Li)(Rw:Lg->AU->La)(s:Int)(acc:Li)(nx:La):Prop:=bh (XSiG C I Ac Rw) 1 f22 [.agg ⟨[.int .i64 s,dat 1 (blV acc),dat 1 (roV nx)]⟩] ⟨.leaf,0⟩ (endF env ⟨.leaf,0⟩ [] [] [] Q)
end
end Go.T9
namespace Go.T9
abbrev _root_.Go.JV:=@List.map_nil
abbrev QW:=List (Int×List UInt8)
variable {s t:Int}{by' fr:Le}{sn:Li}{w:List UInt8}{n:Nat}{q:QW}
def qs(q:QW):Le:=q.map (·.1)
theorem AE(q r:QW):qs (q++r)=qs q++qs r:=List.map_append
structure SQ (n:Nat) (q:QW) (sn:Li):Prop where
 ls:sn.length=n
 rng:∀ x∈q,0<=x.1/\x.1<n
 nd:(qs q).Nodup
 se:∀ s:Nat,s<n->sn.getD s false=decide ((s:Int)∈qs q)
 wl:∀ x∈q,x.2.length<=q.length
theorem fy{a :Type}(l:List a)(i j:Nat)(x d: a)(h:i<l.length):(l.set i x).getD j d=if i=j then x else l.getD j d:=by rw[List.getD_eq_getElem?_getD,Hm,List.getD_eq_getElem?_getD];by_cases e:i=j;subst e;simp[h];simp[e]
theorem SQ.add(h:SQ n q sn)(m:0<=t)(l:t<n)(j:¬ t∈qs q)(w:List UInt8)(f:w.length<=q.length+1):SQ n (q++[(t,w)]) (sn.set t.toNat true):=by
 have g:t.toNat<sn.length:=by rw[h.ls];omega
 have o:(t.toNat:Int)=t:=by omega
 refine⟨by rw[GF];exact h.ls,λx c=>?_,?_,λs i=>?_,λx c=>?_⟩;rotate_right;rw[Gr];rcases GS.1 c with c|c;have:=h.wl x c;simp;omega;simp only[GZ]at c;subst c;simpa using f;rcases GS.1 c with c|c;exact h.rng x c;simp only[GZ]at c;subst c;exact⟨m,l⟩;rw[AE];refine List.nodup_append.2 ⟨h.nd,by simp[qs],λa k b d=>?_⟩;simp only[qs,Hq,JV,GZ]at d;subst d;exact λe=>j (e▸k);rw[fy _ _ _ _ _ g,AE];by_cases e:t.toNat=s;subst e;rw[E' rfl,o];simp[qs];rw[C' e,h.se s i];have:¬ (s:Int)=t:=by omega
 congr 1;simp only[GS,qs,Hq,JV,GZ,this,Jt]
theorem SQ.seen(h:SQ n q sn)(c:0<=t)(b:t<n):sn.getD t.toNat false=decide (t∈qs q):=by
 have a:(t.toNat:Int)=t:=by omega
 rw[h.se _ (by omega),a]
theorem SQ.le(h:SQ n q sn):q.length<=n:=by have:=cF n ((qs q).map Int.toNat) ?_ λx d=>?_;simpa[qs]using this;refine JU _ ?_ (JH.1 h.nd);rintro a b ⟨j,i,g⟩ e;obtain⟨x,d,rfl⟩:=Gv.1 j;obtain⟨y,c,rfl⟩:=Gv.1 i;have:=h.rng x d;have:=h.rng y c;omega;obtain⟨y,c,rfl⟩:=Gv.1 d;obtain⟨z,f,rfl⟩:=Gv.1 c;have:=h.rng z f;omega
theorem SQ.init(n:Nat)(c:0<=s)(b:s<n):SQ n [(s,[])] ((List.replicate n false).set s.toNat true):=by have:=(SQ.add (n:=n) (q:=[]) (sn:=List.replicate n false) ⟨by simp,by simp,by simp[qs],λs a=>by simp[qs,List.getD_eq_getElem?_getD,List.getElem?_replicate,a],by simp⟩ c b (by simp[qs]) [] (by simp));simpa using this
structure BQ (n:Nat) (q:QW) (fr by':Le):Prop where
 lf:fr.length=n
 lb:by'.length=n
 hd:(0,[])∈q
 wd:∀ x∈q,x=(0,[])∨(x.1≠0/\∃ y∈q,∃b:UInt8,fr.getD x.1.toNat 0=y.1/\by'.getD x.1.toNat 0=(b.toNat:Int)/\x.2=y.2++[b])
theorem BQ.add(l:SQ n q sn)(h:BQ n q fr by')(u:0<=t)(r:t<n)(f:¬ t∈qs q){y:Int×List UInt8}(k:y∈q)(b:UInt8):
 BQ n (q++[(t,y.2++[b])]) (fr.set t.toNat y.1) (by'.set t.toNat (b.toNat:Int)):=by
 have g:t.toNat<fr.length:=by rw[h.lf];omega
 have i:t.toNat<by'.length:=by rw[h.lb];omega
 refine⟨by rw[GF];exact h.lf,by rw[GF];exact h.lb,GS.2 (.inl h.hd),λx a=>?_⟩;rcases GS.1 a with a|a;rcases h.wd x a with e|⟨e,z,j,c,p,o,m⟩;exact .inl e;have d:¬ t.toNat=x.1.toNat:=λv=>by
  have:=l.rng x a;have:t=x.1:=by omega
  exact f (this▸Gv.2 ⟨x,a,rfl⟩)
 refine .inr ⟨e,z,GS.2 (.inl j),c,?_,?_,m⟩;rw[fy _ _ _ _ _ g,C' d];exact p;rw[fy _ _ _ _ _ i,C' d];exact o;simp only[GZ]at a;subst a;refine .inr ⟨λe=>f ?_,y,GS.2 (.inl k),b,?_,?_,rfl⟩;dsimp only at e;rw[e];exact Gv.2 ⟨_,h.hd,rfl⟩;rw[fy _ _ _ _ _ g,E' rfl];rw[fy _ _ _ _ _ i,E' rfl]
theorem vq(h:(qs q).Nodup){w':List UInt8}(d:(s,w)∈q)(c:(s,w')∈q):w=w':=by
 induction q with
 |nil=>simp at d
 |cons x q e=>simp only[qs,Hq,List.nodup_cons]at h;rcases Gz.1 d with b|b;rcases Gz.1 c with a|a;rw[<-a]at b;exact(Prod.mk.inj b).2;rw[<-b]at h;exact absurd (Gv.2 ⟨_,a,rfl⟩) h.1;rcases Gz.1 c with a|a;rw[<-a]at h;exact absurd (Gv.2 ⟨_,b,rfl⟩) h.1;exact e h.2 b a
theorem BQ.zero(b:SQ n q sn)(h:BQ n q fr by')(a:((0:Int),w)∈q):w=[]:=vq b.nd a h.hd
theorem BQ.back(h:BQ n q fr by')(d:(s,w)∈q)(f:s≠0):∃ a w' b,(a,w')∈q/\fr.getD s.toNat 0=a/\by'.getD s.toNat 0=((b:UInt8).toNat:Int)/\w=w'++[b]:=by rcases h.wd _ d with e|⟨_,y,c,b,j,i,g⟩;exact absurd (Prod.mk.inj e).1 f;exact⟨y.1,y.2,b,c,j,i,g⟩
theorem BQ.init(n:Nat):BQ n [(0,[])] (List.replicate n 0) (List.replicate n 0):=⟨by simp,by simp,by simp,λx a=>.inl (by simpa using a)⟩
structure WQ (n:Nat) (q:QW) (wd:List (List UInt8)):Prop where
 lw:wd.length=n
 ww:∀ x∈q,wd.getD x.1.toNat []=x.2
theorem WQ.add{b:List (List UInt8)}(e:SQ n q sn)(h:WQ n q b)(i:0<=t)(g:t<n)(f:¬ t∈qs q)(w:List UInt8):WQ n (q++[(t,w)]) (b.set t.toNat w):=by
 have d:t.toNat<b.length:=by rw[h.lw];omega
 refine⟨by rw[GF];exact h.lw,λx a=>?_⟩;rw[fy _ _ _ _ _ d];rcases GS.1 a with a|a;have c:¬ t.toNat=x.1.toNat:=λj=>by
  have:=e.rng x a;have:t=x.1:=by omega
  exact f (this▸Gv.2 ⟨x,a,rfl⟩)
 rw[C' c];exact h.ww x a;simp only[GZ]at a;subst a;rw[E' rfl]
theorem WQ.init(n:Nat)(b:s.toNat<n):WQ n [(s,[])] (List.replicate n []):=⟨by simp,λx a=>by simp only[GZ]at a;subst a;simp[List.getD_eq_getElem?_getD,List.getElem?_replicate,b]⟩
structure RevI {α :Type}(l l':List α) (k:Nat):Prop where
 len:l'.length=l.length
 at':∀ t,t<l.length->l'[t]? =if t<k∨l.length<=t+k then l[l.length-1-t]? else l[t]?
theorem RevI.init{a :Type}(l:List a):RevI l l 0:=⟨rfl,λt h=>by rw[C' (by omega)]⟩
theorem RevI.step{a :Type}{l l':List a}{k:Nat}(h:RevI l l' k)(o:k+1<l.length-k){x y: a}(i:l'[k]? =some x)(g:l'[l.length-1-k]? =some y):RevI l ((l'.set k y).set (l.length-1-k) x) (k+1):=by have c:=h.at' k (by omega);rw[C' (by omega),i]at c;have b:=h.at' (l.length-1-k) (by omega);rw[C' (by omega),g]at b;refine⟨by rw[GF,GF];exact h.len,λt j=>?_⟩;have m:=h.len;rw[Hm,GF];by_cases f:l.length-1-k=t;rw[E' f,E' (by omega),E' (by omega),c];congr 1;omega;rw[C' f,Hm];by_cases e:k=t;subst e;rw[E' rfl,E' (by omega),E' (by omega),b];rw[C' e,h.at' t j];by_cases d:t<k∨l.length<=t+k;rw[E' d,E' (by omega)];rw[C' d,C' (by omega)]
theorem RevI.done{b :Type}{l l':List b}{k:Nat}(h:RevI l l' k)(e:l.length<=2*k+1):l'=l.reverse:=by refine Iz λt=>?_;have d:=h.len;rcases Hc t l.length with a|a;rw[h.at' t a,List.getElem?_reverse a];by_cases c:t<k∨l.length<=t+k;rw[E' c];rw[C' c];congr 1;omega;rw[Hs (by omega),Hs (by rw[List.length_reverse];exact a)]
section
variable {S:Type}[DecidableEq S] {B:Type}
end
section
variable {S:Type}[DecidableEq S]
theorem EI.run{sc:S->List S}{P:S->Prop}{N:Nat}{st:S}(b:∀ k,P k->∀ s∈sc k,P s)(c:∀ l:List S,l.Nodup->(∀k∈l,P k)->l.length<N):∀ (m:Nat) {ks:List S}{i:Nat},EI sc P N st ks i->N-i=m->EI sc P N st (exS sc N [st] 0) (exS sc N [st] 0).length
 | m,ks,i,h,hm=>by
  have d:=c ks h.nd h.inp;rcases Hc i ks.length with a|a;cases m with
  |zero=>omega
  |succ m=>exact EI.run b c m (h.step b (Gq a) (by omega)).1 (by omega)
  obtain⟨f,e⟩:=h.done a d;rw[<-e,<-f];exact h
end
end Go.T9
set_option maxRecDepth 100000
namespace Go.T9
open Go Go.AM Go.MK
theorem sC:∀ {nx:La}{c c':Nat},(∀r∈nx,∀d,0<=r.getD d 0/\r.getD d 0<65536)->colB nx c'=colB nx c->∀ r∈nx,r.getD c' 0=r.getD c 0
 | [],_,_,_,_,r,a=>by simp at a
 |x::nx,c,c',h,b,r,a=>by have b:b2 (x.getD c' 0)++colB nx c'=b2 (x.getD c 0)++colB nx c:=b;obtain⟨i,g⟩:=List.append_inj b rfl;rcases Gz.1 a with rfl|a;have f:=h r (by simp) c';have e:=h r (by simp) c;exact b2_inj f.1 f.2 e.1 e.2 i;exact sC (λr a=>h r (by simp[a])) g r a
theorem ent_lt{a:AU}(h:OkA a):∀ r∈a.2.2,∀d,0<=r.getD d 0/\r.getD d 0<65536:=λr b d=>by
 have c:=h.n1;rw[List.getD_eq_getElem?_getD];cases hd:r[d]? with
 |none=>simp
 |some x=>have:=h.ent r b x (GO hd);simp only[Iv];omega
theorem Cl{a:AU}(h:OkA a){q:Int}{c c':Nat}(f:colB a.2.2 c'=colB a.2.2 c):stp a.2.2 q c'=stp a.2.2 q c:=by
 show(a.2.2.getD q.toNat []).getD c' 0=(a.2.2.getD q.toNat []).getD c 0;have d:∀ r,a.2.2.getD q.toNat []=r->r.getD c' 0=r.getD c 0:=λr b=>by
  rw[List.getD_eq_getElem?_getD]at b;cases e:a.2.2[q.toNat]? with
  |none=>rw[e]at b;subst b;rfl
  |some x=>rw[e]at b;subst b;exact sC (ent_lt h) f _ (GO e)
 exact d _ rfl
theorem Co{a:AU}(h:OkA a)(k:PR){c c':Nat}(b:keyS a.2.2 c'=keyS a.2.2 c):stS a k c'=stS a k c:=by unfold stS;rw[Cl h b]
theorem ei_S{a:AU}(h:OkA a){F:Lg}(d:∀ c∈F,c<256):EI (scF F (stS a)) (inS a) 90001 (a.1,0) (reS F a) (reS F a).length:=
 EI.run (mC h d) (λl hd b=>by have:=rP h l hd b;omega) _ (EI.init ⟨h.st,rfl⟩) rfl
end Go.T9
set_option maxRecDepth 1000000
namespace Go.T9
open Go Go.AM Go.MK Go.Proofs.Tryz
noncomputable section
abbrev d_:=λa b c d=>AObj.arr (inV a) [Value.slice (some ⟨1,0,none⟩) b 18446744073709551620,Value.slice (some ⟨2,0,none⟩) c 18446744073709551620,Value.slice (some ⟨3,0,none⟩) d 18446744073709551620] 256 71
abbrev i_{A:Type}:=λ(a:List A)=>List.length a
abbrev S_:=λa=>List.map deI (inV a)
abbrev KK:=λa=>deN (glue (glue (inV a) []) [])
abbrev Ls:=λa=>f_ (inV a)
theorem Mb(Q:Value->AH->Prop)(C:AU->Le)(I:AU->Le)(Ac:Lg->AU->Li)(Rw:Lg->AU->La)(s:Int)(acc:Li)(nx:La):jSi Q C I Ac Rw s acc nx=(HFs [f_ (inV z256),O' acc,W_ nx,Ls (I (s,u_ acc,p_ nx)),Ls (C (s,u_ acc,p_ nx)),O' acc,W_ nx] (PH (Prod.fst (some (inV z256=inV z256/\okO (l_ s acc nx) (s,u_ acc,p_ nx)),J6,[AObj.arr (inV (C (s,u_ acc,p_ nx))) [g_ 2 0 (i_ (I (s,u_ acc,p_ nx))),A_,A_] 256 71,l_ s acc nx,e_ (I (s,u_ acc,p_ nx))])))/\HFs [Ls (C (s,u_ acc,p_ nx)),O' acc,W_ nx,Ls (I (s,u_ acc,p_ nx)),f_ (roV (Rw (KK (I (s,u_ acc,p_ nx))) (s,u_ acc,p_ nx))),f_ (blV (Ac (KK (I (s,u_ acc,p_ nx))) (s,u_ acc,p_ nx))),Ls (C (s,u_ acc,p_ nx)),O' acc,W_ nx,Ls (I (s,u_ acc,p_ nx))] (PH (Prod.fst (some (inV (C (s,u_ acc,p_ nx))=inV (S_ (C (s,u_ acc,p_ nx)))/\([]:Lh)=[]/\IsF (inV (I (s,u_ acc,p_ nx))) (i_ (I (s,u_ acc,p_ nx)))/\okO (l_ s acc nx) (s,u_ acc,p_ nx)/\s=s/\(0:Int)=(0:Int)),J6,[AObj.arr (inV (C (s,u_ acc,p_ nx))) [g_ 2 0 (i_ (I (s,u_ acc,p_ nx))),g_ 3 0 (i_ (Ac (KK (I (s,u_ acc,p_ nx))) (s,u_ acc,p_ nx))),g_ 4 0 (i_ (Rw (KK (I (s,u_ acc,p_ nx))) (s,u_ acc,p_ nx)))] 256 71,l_ s acc nx,e_ (I (s,u_ acc,p_ nx)),Z_ (Ac (KK (I (s,u_ acc,p_ nx))) (s,u_ acc,p_ nx)),O_ (Rw (KK (I (s,u_ acc,p_ nx))) (s,u_ acc,p_ nx))])))/\I_ (C (s,u_ acc,p_ nx))/\I_ (I (s,u_ acc,p_ nx))/\J0 (blV (Ac (KK (I (s,u_ acc,p_ nx))) (s,u_ acc,p_ nx)))/\J0 (roV (Rw (KK (I (s,u_ acc,p_ nx))) (s,u_ acc,p_ nx)))/\Q h_ (Q_ (Kd (Sg (O_ (Rw (KK (I (s,u_ acc,p_ nx))) (s,u_ acc,p_ nx)))) (e_ (I (s,u_ acc,p_ nx)))) (d_ (C (s,u_ acc,p_ nx)) (i_ (I (s,u_ acc,p_ nx))) (i_ (Ac (KK (I (s,u_ acc,p_ nx))) (s,u_ acc,p_ nx))) (i_ (Rw (KK (I (s,u_ acc,p_ nx))) (s,u_ acc,p_ nx)))) (Sg (Z_ (Ac (KK (I (s,u_ acc,p_ nx))) (s,u_ acc,p_ nx)))) 4)):=by kernel_rfl
theorem jSi_nf:type_of%(by have h:=@Mb;revert h;delta b_ d_ e_ f_ g_ h_ i_ k_ l_ p_ u_ A_ I_ O_ Q_ S_ W_ Z_ O' J0 J6 Kd KK Ls;exact id):=@Mb
def dfB(C F:Le)(ac:Li)(rw:La):List AObj:=[dfO C [groS 1 F.length,groS 2 ac.length,groS 3 rw.length],groI F,groB ac,groR rw]
def hDf(C F:Le)(ac:Li)(rw:La):AH:=⟨(Nd (Nd (Nd Lf (some (groR rw)) Lf) (some (groI F)) Lf) (some (dfO C [groS 1 F.length,groS 2 ac.length,groS 3 rw.length])) (Nd Lf (some (groB ac)) Lf)),4⟩
theorem mF(C F:Le)(ac:Li)(rw:La):aW (dfB C F ac rw)=hDf C F ac rw:=by kernel_rfl
theorem AK{a:AU}(h:OkA a):okO (auCo a) a:=⟨rfl,h⟩
theorem si_gen(Q:Value->AH->Prop)(C I:AU->Le)(g:Lg->AU->Li)(f:Lg->AU->La){a:AU}(h:OkA a)(F:Lg)(k:I a=inF F)(l:∀ c∈F,c<256)(b:F.length<=256)
 (i:Q (.pointer (some ⟨0,0,none⟩)) (aW (dfB (C a) (inF F) (g F a) (f F a)))):jSi Q C I g f a.1 a.2.1 a.2.2:=by
 obtain⟨s,d,j⟩:=a;refine(jSi_nf Q C I g f s d j).mpr ?_;rw[cx,bX,k];have e:deN (glue (glue (inV (inF F)) []) [])=F:=by exact oU F
 rw[e];rw[mF]at i;refine⟨⟨ab _,.dat (aN _),.dat (aK _),ab _,ab _,.dat (aN _),.dat (aK _),rfl,AK h⟩,⟨ab _,.dat (aN _),.dat (aK _),ab _,aH _,aC _,ab _,.dat (aN _),.dat (aK _),ab _,?_⟩,ab _,ab _,aC _,aH _,i⟩;exact⟨by rw[dp],rfl,⟨by rw[oU],by rw[oU];exact l,by rw[oU];exact b,by rw[oU,ao]⟩,AK h,rfl,rfl⟩
def fsS(a:AU):Lg:=clsF (keyS a.2.2) 256
def caS(a:AU):Le:=clsC (keyS a.2.2) 256
def accS(a:AU):Li:=aceS (fsS a) a
def rowS(a:AU):La:=rweS (fsS a) a
theorem CA{a:AU}(h:OkA a):WalkF env f22 [auV a] ⟨.leaf,0⟩ (.pointer (some ⟨0,0,none⟩)) (aW (dfB (caS a) (inF (fsS a)) (accS a) (rowS a))):=
 aJ XSi_ok (d:=1) (ns:=[]) (zs:=[]) (ws:=[]) (si_gen _ caS (λa=>clsI (keyS a.2.2) 256) aceS rweS h (fsS a) rfl (gd _ _) (je _ _) ⟨rfl,rfl⟩)
end
end Go.T9
