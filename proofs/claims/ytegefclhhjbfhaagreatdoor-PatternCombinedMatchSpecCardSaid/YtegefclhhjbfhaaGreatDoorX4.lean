/- A part of the proof. -/
import Derived.Test.YtegefclhhjbfhaaGreatDoorX3
set_option linter.unusedVariables false
set_option linter.unusedSimpArgs false
set_option linter.unusedSectionVars false
set_option maxRecDepth 1000000
namespace Go.T9
open Go Go.AM Go.MK Go.Proofs.Tryz
noncomputable section
def groI(l:Le):AObj:=.gro (inV l) [] 3
def groB(l:Li):AObj:=.gro (blV l) [] 4
def groR(l:La):AObj:=.gro (roV l) [] 49
def CP(C I:AU->Le):Lh->List AObj->Option (Ll×Value×List AObj)
 | [.pointer (some ⟨B,o,none⟩),.func (.func g) ⟨[]⟩ ⟨[.pointer (some ⟨B1,o1,none⟩)]⟩],[.arr els [.slice none 0 0,.slice none 0 0,.slice none 0 0] n e,u]=>(match auO u with
   | some a=>bif ((Nat.beq B 0&&Nat.beq o 0)&&(Nat.beq B1 1&&Nat.beq o1 0))&&(Nat.beq g 47&&(Nat.beq n 256&&Nat.beq e 51))then
    some (some (els=inV z256/\okO u a),.tuple ⟨[]⟩,[dfO (C a) [groS 2 (I a).length,nilS,nilS],u,groI (I a)])else none
   |_=>none)
 |_,_=>none
def spCs:=CP (λa=>clsC (keyS a.2.2) 256) (λa=>clsI (keyS a.2.2) 256)
def CQ(C I:AU->AU->Le):Lh->List AObj->Option (Ll×Value×List AObj)
 | [.pointer (some ⟨B,o,none⟩),.func (.func g) ⟨[]⟩ ⟨[.pointer (some ⟨B1,o1,none⟩),.pointer (some ⟨B2,o2,none⟩)]⟩],[.arr els [.slice none 0 0,.slice none 0 0,.slice none 0 0] n e,u,v]=>(match auO u,auO v with
   | some a,some b=>bif ((Nat.beq B 0&&Nat.beq o 0)&&((Nat.beq B1 1&&Nat.beq o1 0)&&(Nat.beq B2 2&&Nat.beq o2 0)))&&(Nat.beq g 67&&(Nat.beq n 256&&Nat.beq e 51))then
    some (some (els=inV z256/\okO u a/\okO v b),.tuple ⟨[]⟩,[dfO (C a b) [groS 3 (I a b).length,nilS,nilS],u,v,groI (I a b)])else none
   |_,_=>none)
 |_,_=>none
def spCp:=CQ (λa b=>clsC (keyP a.2.2 b.2.2) 256) (λa b=>clsI (keyP a.2.2 b.2.2) 256)
theorem Fp(C:Le)(a:AU):aQ [dfO C [nilS,nilS,nilS],auCo a]=hCs0 C a.1 a.2.1 a.2.2:=by kernel_rfl
theorem zP(C F:Le)(a:AU):aQ [dfO C [groS 2 F.length,nilS,nilS],auCo a,groI F]=hCsE C F a.1 a.2.1 a.2.2:=by kernel_rfl
theorem Fq(C:Le)(a b:AU):aQ [dfO C [nilS,nilS,nilS],auCo a,auCo b]=hCp0 C a.1 a.2.1 a.2.2 b.1 b.2.1 b.2.2:=by kernel_rfl
theorem zQ(C F:Le)(a b:AU):aQ [dfO C [groS 3 F.length,nilS,nilS],auCo a,auCo b,groI F]=hCpE C F a.1 a.2.1 a.2.2 b.1 b.2.1 b.2.2:=by kernel_rfl
theorem cs_tab:∀ args A p v A',frmR arD spCs args A=some (p,v,A')->PH p->CallAt env 46 args A v A':=aS ai (fn:=f46) rfl λargs f p v c h j=>by unfold spCs CP at h;split at h;rename_i B o g l i d n e u;split at h;rename_i a m;cases b:((Nat.beq B 0&&Nat.beq o 0)&&(Nat.beq l 1&&Nat.beq i 0))&&(Nat.beq g 47&&(Nat.beq n 256&&Nat.beq e 51));rw[b]at h;cases h;rw[b]at h;simp only[C',osI,Hs]at h;obtain⟨rfl,rfl,rfl⟩:=h;simp only[f',Hy]at b;obtain⟨⟨⟨rfl,rfl⟩,rfl,rfl⟩,rfl,rfl,rfl⟩:=b;obtain⟨rfl,rfl,k⟩:d=inV z256/\okO u a:=j;rw[zP];exact(Fp z256 a)▸Gx k;cases h;cases h
theorem cp_tab:∀ args A p v A',frmR arD spCp args A=some (p,v,A')->PH p->CallAt env 46 args A v A':=aS ai (fn:=f46) rfl λargs i p v d h l=>by unfold spCp CQ at h;split at h;rename_i B o g t k s j f n e u w;split at h;rename_i a b x m;cases c:((Nat.beq B 0&&Nat.beq o 0)&&((Nat.beq t 1&&Nat.beq k 0)&&(Nat.beq s 2&&Nat.beq j 0)))&&(Nat.beq g 67&&(Nat.beq n 256&&Nat.beq e 51));rw[c]at h;cases h;rw[c]at h;simp only[C',osI,Hs]at h;obtain⟨rfl,rfl,rfl⟩:=h;simp only[f',Hy]at c;obtain⟨⟨⟨rfl,rfl⟩,⟨rfl,rfl⟩,rfl,rfl⟩,rfl,rfl,rfl⟩:=c;obtain⟨rfl,⟨rfl,r⟩,rfl,q⟩:f=inV z256/\okO u a/\okO w b:=l;rw[zQ];exact(Fq z256 a b)▸Gy r q;cases h;cases h
def deN(l:Lh):Lg:=l.map λv=>(deI v).toNat
theorem fY(F:Lg):deN (inV (inF F))=F:=by
 unfold deN inV inF;rw[H4,H4];conv=>rhs;rw[<-IC F]
 exact HQ λx _=>rfl
def IsF(l:Lh)(n:Nat):Prop:=l=inV (inF (deN l))/\(∀c∈deN l,c<256)/\(deN l).length<=256/\n=(deN l).length
def CN(Ac:Lg->AU->Li)(Rw:Lg->AU->La):Lh->List AObj->Option (Ll×Value×List AObj)
 | [.pointer (some ⟨B,o,none⟩),.agg ⟨[.int .i64 x,.int .i64 y]⟩,.func (.func g) ⟨[]⟩ ⟨[.pointer (some ⟨B1,o1,none⟩)]⟩,.func (.func g2) ⟨[]⟩ ⟨[.pointer (some ⟨B2,o2,none⟩)]⟩],[.arr els [.slice (some ⟨B3,o3,none⟩) n m,.slice none 0 0,.slice none 0 0] q e,u,.gro l tl e2]=>(match auO u with
   | some a=>bif ((Nat.beq B 0&&Nat.beq o 0)&&((Nat.beq B1 1&&Nat.beq o1 0)&&(Nat.beq B2 1&&Nat.beq o2 0)))&&(((Nat.beq g 49&&Nat.beq g2 51)&&(Nat.beq q 256&&Nat.beq e 51))&&((Nat.beq B3 2&&Nat.beq o3 0)&&(Nat.beq m (unk+3+1)&&Nat.beq e2 3)))then
    some (some (els=inV (els.map deI)/\tl=[]/\IsF l n/\okO u a/\x=a.1/\y=0),.tuple ⟨[]⟩,[.arr els [groS 2 n,groS 3 (Ac (deN l) a).length,groS 4 (Rw (deN l) a).length] q e,u,.gro l [] e2,groB (Ac (deN l) a),groR (Rw (deN l) a)])else none
   |_=>none)
 |_,_=>none
def aceS(F:Lg)(a:AU):Li:=(reS F a).map (acS a)
def rweS(F:Lg)(a:AU):La:=bc (scF F (stS a)) (reS F a) (reS F a).length
def spEs:=CN aceS rweS
def CO(g:CF)(Ac:Lg->AU->AU->Li)(Rw:Lg->AU->AU->La):Lh->List AObj->Option (Ll×Value×List AObj)
 | [.pointer (some ⟨B,o,none⟩),.agg ⟨[.int .i64 x,.int .i64 y]⟩,.func (.func gg) ⟨[]⟩ ⟨[.pointer (some ⟨B0,o0,none⟩),.pointer (some ⟨B1,o1,none⟩),.pointer (some ⟨B2,o2,none⟩)]⟩,.func (.func g2) ⟨[]⟩ ⟨[.pointer (some ⟨B4,o4,none⟩),.pointer (some ⟨B5,o5,none⟩)]⟩],[.arr els [.slice (some ⟨B3,o3,none⟩) n m,.slice none 0 0,.slice none 0 0] q e,f,u,w,.gro l tl e2]=>(match auO u,auO w with
   | some a,some b=>bif ((Nat.beq B 0&&Nat.beq o 0)&&(((Nat.beq B0 1&&Nat.beq o0 0)&&((Nat.beq B1 2&&Nat.beq o1 0)&&(Nat.beq B2 3&&Nat.beq o2 0)))&&((Nat.beq B4 2&&Nat.beq o4 0)&&(Nat.beq B5 3&&Nat.beq o5 0))))&&(((Nat.beq gg 68&&Nat.beq g2 69)&&(Nat.beq q 256&&Nat.beq e 51))&&((Nat.beq B3 4&&Nat.beq o3 0)&&(Nat.beq m (unk+3+1)&&Nat.beq e2 3)))then
    some (some (els=inV (els.map deI)/\tl=[]/\IsF l n/\f=fnO g/\okO u a/\okO w b/\x=a.1/\y=b.1),.tuple ⟨[]⟩,[.arr els [groS 4 n,groS 5 (Ac (deN l) a b).length,groS 6 (Rw (deN l) a b).length] q e,f,u,w,.gro l [] e2,groB (Ac (deN l) a b),groR (Rw (deN l) a b)])else none
   |_,_=>none)
 |_,_=>none
def aceP(g:CF)(F:Lg)(a b:AU):Li:=(reP F a b).map (acP2 g a b)
def rweP(F:Lg)(a b:AU):La:=bc (scF F (stP a b)) (reP F a b) (reP F a b).length
def spEp(g:CF):=CO g (aceP g) rweP
theorem Fm(C F:Le)(a:AU):aQ [dfO C [groS 2 F.length,nilS,nilS],auCo a,groI F]=hEs0 C F a.1 a.2.1 a.2.2:=by kernel_rfl
theorem zN(C F:Le)(b:Li)(c:La)(a:AU):aQ [dfO C [groS 2 F.length,groS 3 b.length,groS 4 c.length],auCo a,groI F,groB b,groR c]=hEsE C F b c a.1 a.2.1 a.2.2:=by kernel_rfl
theorem Fo(g:CF)(C F:Le)(a b:AU):aQ [dfO C [groS 4 F.length,nilS,nilS],fnO g,auCo a,auCo b,groI F]=hEp0 g C F a.1 a.2.1 a.2.2 b.1 b.2.1 b.2.2:=by kernel_rfl
theorem zO(g:CF)(C F:Le)(c:Li)(d:La)(a b:AU):aQ [dfO C [groS 4 F.length,groS 5 c.length,groS 6 d.length],fnO g,auCo a,auCo b,groI F,groB c,groR d]=hEpE g C F c d a.1 a.2.1 a.2.2 b.1 b.2.1 b.2.2:=by kernel_rfl
theorem bl{a :Type}{b:Bool}{x y: a}(h:(bif b then some x else none)=some y):b=true/\x=y:=by grind
theorem es_tab:∀ args A p v A',frmR arD spEs args A=some (p,v,A')->PH p->CallAt env 50 args A v A':=aS ai (fn:=f50) rfl λargs d p v c h k=>by unfold spEs CN at h;split at h;rename_i B o x y g L E H K D b J z n m q e u l j I;split at h;rename_i a G;obtain⟨f,h⟩:=bl h;simp only[Hs]at h;obtain⟨rfl,rfl,rfl⟩:=h;simp only[f',Hy]at f;obtain⟨⟨⟨rfl,rfl⟩,⟨rfl,rfl⟩,rfl,rfl⟩,⟨⟨rfl,rfl⟩,rfl,rfl⟩,⟨rfl,rfl⟩,rfl,rfl⟩:=f;obtain⟨i,rfl,⟨w,t,s,rfl⟩,⟨rfl,r⟩,rfl,rfl⟩:b=inV (b.map deI)/\j=[]/\IsF l n/\okO u a/\x=a.1/\y=0:=k;generalize b.map deI=C at i;subst i;generalize deN l=F at*;subst w;have:=F7 C F t s r;rw[<-Fm,<-zN,ao]at this;exact this;cases h;cases h
theorem ep_tab{g:CF}:∀ args A p v A',frmR arD (spEp g) args A=some (p,v,A')->PH p->CallAt env 50 args A v A':=aS ai (fn:=f50) rfl λargs i p v d h s=>by unfold spEp CO at h;split at h;rename_i B o x y P Z N Y M X L Q U J S I c V K n m q e f u w l r R;split at h;rename_i a b O t;obtain⟨j,h⟩:=bl h;simp only[Hs]at h;obtain⟨rfl,rfl,rfl⟩:=h;simp only[f',Hy]at j;obtain⟨⟨⟨rfl,rfl⟩,⟨⟨rfl,rfl⟩,⟨rfl,rfl⟩,rfl,rfl⟩,⟨rfl,rfl⟩,rfl,rfl⟩,⟨⟨rfl,rfl⟩,rfl,rfl⟩,⟨rfl,rfl⟩,rfl,rfl⟩:=j;obtain⟨k,rfl,⟨H,G,E,rfl⟩,rfl,⟨rfl,D⟩,⟨rfl,z⟩,rfl,rfl⟩:c=inV (c.map deI)/\r=[]/\IsF l n/\f=fnO g/\okO u a/\okO w b/\x=a.1/\y=b.1:=s;generalize c.map deI=C at k;subst k;generalize deN l=F at*;subst H;have:=Gd g C F G E D z;rw[<-Fo g,<-zO g,ao]at this;exact this;cases h;cases h
def XSiG(C I:AU->Le)(b:Lg->AU->Li)(a:Lg->AU->La):SX:=⟨env,[(46,frmR arD (CP C I)),(50,frmR arD (CN b a))],noEl,λ_=>.unroll 0⟩
def XSi:SX:=XSiG (λa=>clsC (keyS a.2.2) 256) (λa=>clsI (keyS a.2.2) 256) aceS rweS
theorem XSi_ok:XSi.Ok:=⟨ai,aD,am,.cons cs_tab (.cons es_tab .nil)⟩
def XPaG(g:CF)(C I:AU->AU->Le)(b:Lg->AU->AU->Li)(a:Lg->AU->AU->La):SX:=⟨env,[(46,frmR arD (CQ C I)),(50,frmR arD (CO g b a))],noEl,λ_=>.unroll 0⟩
def XPa(g:CF):SX:=XPaG g (λa b=>clsC (keyP a.2.2 b.2.2) 256) (λa b=>clsI (keyP a.2.2 b.2.2) 256) (aceP g) rweP
theorem XPa_ok(g:CF):(XPa g).Ok:=⟨ai,aD,am,.cons cp_tab (.cons ep_tab .nil)⟩
def jSi(Q:Value->AH->Prop)(C I:AU->Le)(b:Lg->AU->Li)(a:Lg->AU->La)(s:Int)(d:Li)(c:La):Prop:=aN (XSiG C I b a) 1 f25 [.agg ⟨[.int .i64 s,dat 1 (blV d),dat 1 (roV c)]⟩] ⟨.leaf,0⟩ (endF env ⟨.leaf,0⟩ [] [] [] Q)
def jPa(g:CF)(Q:Value->AH->Prop)(C I:AU->AU->Le)(b:Lg->AU->AU->Li)(e:Lg->AU->AU->La)(s:Int)(d:Li)(h:La)(c:Int)(f:Li)(a:La):Prop:=aN (XPaG g C I b e) 1 f33 [.agg ⟨[.int .i64 s,dat 1 (blV d),dat 1 (roV h)]⟩,.agg ⟨[.int .i64 c,dat 1 (blV f),dat 1 (roV a)]⟩,clV g] ⟨.leaf,0⟩ (endF env ⟨.leaf,0⟩ [] [] [] Q)
end
end Go.T9
namespace Go.T9
theorem _root_.Go.Kn:type_of% @List.map_nil:=@List.map_nil
abbrev _root_.Go.J9:=@or_false
theorem _root_.Go.HY:type_of% @List.getD_eq_getElem?_getD:=@List.getD_eq_getElem?_getD
abbrev _root_.Go.Ko:=@List.getElem?_replicate
abbrev QW:=List (Int×List UInt8)
variable {s t:Int}{by' fr:Le}{sn:Li}{w:List UInt8}{n:Nat}{q:QW}
def qs(q:QW):Le:=q.map (·.1)
theorem AP(q r:QW):qs (q++r)=qs q++qs r:=List.map_append
structure SQ (n:Nat) (q:QW) (sn:Li):Prop where
 ls:sn.length=n
 rng:∀ x∈q,0<=x.1/\x.1<n
 nd:(qs q).Nodup
 se:∀ s:Nat,s<n->sn.getD s false=decide ((s:Int)∈qs q)
 wl:∀ x∈q,x.2.length<=q.length
theorem rW{a :Type}(l:List a)(i j:Nat)(x d: a)(h:i<l.length):(l.set i x).getD j d=if i=j then x else l.getD j d:=by grind
theorem SQ.add(h:SQ n q sn)(o:0<=t)(m:t<n)(j:¬ t∈qs q)(w:List UInt8)(i:w.length<=q.length+1):SQ n (q++[(t,w)]) (sn.set t.toNat true):=by
 have d:t.toNat<sn.length:=by rw[h.ls];omega
 have g:(t.toNat:Int)=t:=by omega
 refine⟨by rw[Hz];exact h.ls,λx c=>?_,?_,λs f=>?_,λx c=>?_⟩;rotate_right;rw[E'];rcases H3.1 c with c|c;have:=h.wl x c;simp;omega;grind;rcases H3.1 c with c|c;exact h.rng x c;grind;rw[AP];refine List.nodup_append.2 ⟨h.nd,by simp[qs],λa l b k=>?_⟩;grind [qs,Ia,Kn,Ie];rw[rW _ _ _ _ _ d,AP];by_cases e:t.toNat=s;subst e;rw[Ht rfl,g];simp[qs];rw[Hm e,h.se s f];have:¬ (s:Int)=t:=by omega
 congr 1;simp only[H3,qs,Ia,Kn,Ie,this,J9]
theorem SQ.seen(h:SQ n q sn)(c:0<=t)(b:t<n):sn.getD t.toNat false=decide (t∈qs q):=by
 have a:(t.toNat:Int)=t:=by omega
 rw[h.se _ (by omega),a]
theorem SQ.le(h:SQ n q sn):q.length<=n:=by have:=cB n ((qs q).map Int.toNat) ?_ λx d=>?_;simpa[qs]using this;refine Km _ ?_ (Ka.1 h.nd);rintro a b ⟨j,i,g⟩ e;obtain⟨x,d,rfl⟩:=Hn.1 j;obtain⟨y,c,rfl⟩:=Hn.1 i;have:=h.rng x d;have:=h.rng y c;omega;obtain⟨y,c,rfl⟩:=Hn.1 d;obtain⟨z,f,rfl⟩:=Hn.1 c;have:=h.rng z f;omega
theorem SQ.init(n:Nat)(c:0<=s)(b:s<n):SQ n [(s,[])] ((List.replicate n false).set s.toNat true):=by have:=(SQ.add (n:=n) (q:=[]) (sn:=List.replicate n false) ⟨by simp,by simp,by simp[qs],λs a=>by simp[qs,HY,Ko,a],by simp⟩ c b (by simp[qs]) [] (by simp));simpa using this
structure BQ (n:Nat) (q:QW) (fr by':Le):Prop where
 lf:fr.length=n
 lb:by'.length=n
 hd:(0,[])∈q
 wd:∀ x∈q,x=(0,[])∨(x.1≠0/\∃ y∈q,∃b:UInt8,fr.getD x.1.toNat 0=y.1/\by'.getD x.1.toNat 0=(b.toNat:Int)/\x.2=y.2++[b])
theorem BQ.add(g:SQ n q sn)(h:BQ n q fr by')(o:0<=t)(m:t<n)(d:¬ t∈qs q){y:Int×List UInt8}(f:y∈q)(b:UInt8):
 BQ n (q++[(t,y.2++[b])]) (fr.set t.toNat y.1) (by'.set t.toNat (b.toNat:Int)):=by
 have k:t.toNat<fr.length:=by rw[h.lf];omega
 have l:t.toNat<by'.length:=by rw[h.lb];omega
 refine⟨by rw[Hz];exact h.lf,by rw[Hz];exact h.lb,H3.2 (.inl h.hd),λx a=>?_⟩;rcases H3.1 a with a|a;rcases h.wd x a with e|⟨e,z,j,c,u,r,p⟩;exact .inl e;have i:¬ t.toNat=x.1.toNat:=λv=>by
  have:=g.rng x a;have:t=x.1:=by omega
  exact d (this▸Hn.2 ⟨x,a,rfl⟩)
 grind;· simp only[Ie]at a;subst a;refine .inr ⟨λe=>d ?_,y,H3.2 (.inl f),b,?_,?_,rfl⟩;dsimp only at e;rw[e];exact Hn.2 ⟨_,h.hd,rfl⟩;all_goals grind
theorem vE(h:(qs q).Nodup){w':List UInt8}(a:(s,w)∈q)(e:(s,w')∈q):w=w':=by
 induction q with
 |nil=>simp at a
 |cons x q d=>simp only[qs,Ia,List.nodup_cons]at h;rcases HE.1 a with c|c;grind;rcases HE.1 e with b|b;grind;exact d h.2 c b
theorem BQ.zero(b:SQ n q sn)(h:BQ n q fr by')(a:((0:Int),w)∈q):w=[]:=vE b.nd a h.hd
theorem BQ.back(h:BQ n q fr by')(c:(s,w)∈q)(f:s≠0):∃ a w' b,(a,w')∈q/\fr.getD s.toNat 0=a/\by'.getD s.toNat 0=((b:UInt8).toNat:Int)/\w=w'++[b]:=by rcases h.wd _ c with e|⟨_,y,d,b,j,i,g⟩;all_goals grind
theorem BQ.init(n:Nat):BQ n [(0,[])] (List.replicate n 0) (List.replicate n 0):=⟨by simp,by simp,by simp,λx a=>.inl (by simpa using a)⟩
structure WQ (n:Nat) (q:QW) (wd:List (List UInt8)):Prop where
 lw:wd.length=n
 ww:∀ x∈q,wd.getD x.1.toNat []=x.2
theorem WQ.add{b:List (List UInt8)}(e:SQ n q sn)(h:WQ n q b)(i:0<=t)(g:t<n)(f:¬ t∈qs q)(w:List UInt8):WQ n (q++[(t,w)]) (b.set t.toNat w):=by
 have d:t.toNat<b.length:=by rw[h.lw];omega
 refine⟨by rw[Hz];exact h.lw,λx a=>?_⟩;rw[rW _ _ _ _ _ d];rcases H3.1 a with a|a;have c:¬ t.toNat=x.1.toNat:=λj=>by
  have:=e.rng x a;have:t=x.1:=by omega
  exact f (this▸Hn.2 ⟨x,a,rfl⟩)
 rw[Hm c];exact h.ww x a;grind
theorem WQ.init(n:Nat)(b:s.toNat<n):WQ n [(s,[])] (List.replicate n []):=⟨by simp,λx a=>by grind⟩
structure RevI {α :Type}(l l':List α) (k:Nat):Prop where
 len:l'.length=l.length
 at':∀ t,t<l.length->l'[t]? =if t<k∨l.length<=t+k then l[l.length-1-t]? else l[t]?
theorem RevI.init{a :Type}(l:List a):RevI l l 0:=⟨rfl,λt h=>by rw[Hm (by omega)]⟩
theorem RevI.step{a :Type}{l l':List a}{k:Nat}(h:RevI l l' k)(m:k+1<l.length-k){x y: a}(c:l'[k]? =some x)(b:l'[l.length-1-k]? =some y):RevI l ((l'.set k y).set (l.length-1-k) x) (k+1):=by have f:=h.at' k (by omega);rw[Hm (by omega),c]at f;have e:=h.at' (l.length-1-k) (by omega);rw[Hm (by omega),b]at e;refine⟨by rw[Hz,Hz];exact h.len,λt d=>?_⟩;have j:=h.len;rw[I4,Hz];by_cases i:l.length-1-k=t;grind;rw[Hm i,I4];by_cases g:k=t;grind;rw[Hm g,h.at' t d];grind
theorem RevI.done{b :Type}{l l':List b}{k:Nat}(h:RevI l l' k)(d:l.length<=2*k+1):l'=l.reverse:=by refine I3 λt=>?_;have c:=h.len;rcases IP t l.length with a|a;rw[h.at' t a,List.getElem?_reverse a];grind;grind
section
variable {S:Type}[DecidableEq S] {B:Type}
end
section
variable {S:Type}[DecidableEq S]
theorem EI.run{sc:S->List S}{P:S->Prop}{N:Nat}{st:S}(b:∀ k,P k->∀ s∈sc k,P s)(c:∀ l:List S,l.Nodup->(∀k∈l,P k)->l.length<N):∀ (m:Nat) {ks:List S}{i:Nat},EI sc P N st ks i->N-i=m->EI sc P N st (exS sc N [st] 0) (exS sc N [st] 0).length
 | m,ks,i,h,hm=>by
  have d:=c ks h.nd h.inp;rcases IP i ks.length with a|a;cases m with
  |zero=>omega
  |succ m=>exact EI.run b c m (h.step b (Hr a) (by omega)).1 (by omega)
  obtain⟨f,e⟩:=h.done a d;rw[<-e,<-f];exact h
end
end Go.T9
set_option maxRecDepth 100000
namespace Go.T9
open Go Go.AM Go.MK
theorem sB:∀ {nx:La}{c c':Nat},(∀r∈nx,∀d,0<=r.getD d 0/\r.getD d 0<65536)->colB nx c'=colB nx c->∀ r∈nx,r.getD c' 0=r.getD c 0
 | [],_,_,_,_,r,a=>by simp at a
 |x::nx,c,c',h,b,r,a=>by have b:b2 (x.getD c' 0)++colB nx c'=b2 (x.getD c 0)++colB nx c:=b;obtain⟨i,g⟩:=List.append_inj b rfl;rcases HE.1 a with rfl|a;have f:=h r (by simp) c';have e:=h r (by simp) c;exact b2_inj f.1 f.2 e.1 e.2 i;exact sB (λr a=>h r (by simp[a])) g r a
variable {c c':Nat}
theorem ent_lt{a:AU}(h:OkA a):∀ r∈a.2.2,∀d,0<=r.getD d 0/\r.getD d 0<65536:=λr b d=>by
 have e:=h.n1;rw[HY];cases hd:r[d]? with
 |none=>simp
 |some x=>have:=h.ent r b x (HR hd);simp only[JD];omega
theorem ph{a:AU}(h:OkA a){q:Int}(f:colB a.2.2 c'=colB a.2.2 c):stp a.2.2 q c'=stp a.2.2 q c:=by
 show(a.2.2.getD q.toNat []).getD c' 0=(a.2.2.getD q.toNat []).getD c 0;have d:∀ r,a.2.2.getD q.toNat []=r->r.getD c' 0=r.getD c 0:=λr b=>by
  rw[HY]at b;cases e:a.2.2[q.toNat]? with
  |none=>rw[e]at b;subst b;rfl
  |some x=>rw[e]at b;subst b;exact sB (ent_lt h) f _ (HR e)
 exact d _ rfl
theorem CH{a b:AU}(h:OkA a)(e:OkA b)(k:PR)(d:keyP a.2.2 b.2.2 c'=keyP a.2.2 b.2.2 c):stP a b k c'=stP a b k c:=by unfold keyP at d;obtain⟨g,f⟩:=List.append_inj d (by rw[oU,oU]);unfold stP;rw[ph h g,ph e f]
theorem CG{a:AU}(h:OkA a)(k:PR)(b:keyS a.2.2 c'=keyS a.2.2 c):stS a k c'=stS a k c:=by unfold stS;rw[ph h b]
theorem ei_P{a b:AU}(h:OkA a)(d:OkA b){F:Lg}(f:∀ c∈F,c<256):EI (scF F (stP a b)) (inP2 a b) 90001 (a.1,b.1) (reP F a b) (reP F a b).length:=
 EI.run (gQ h d f) (λl hd e=>by have:=gR h d l hd e;omega) _ (EI.init ⟨h.st,d.st⟩) rfl
theorem ei_S{a:AU}(h:OkA a){F:Lg}(d:∀ c∈F,c<256):EI (scF F (stS a)) (inS a) 90001 (a.1,0) (reS F a) (reS F a).length:=
 EI.run (mD h d) (λl hd b=>by have:=wy h l hd b;omega) _ (EI.init ⟨h.st,rfl⟩) rfl
end Go.T9
set_option maxRecDepth 1000000
namespace Go.T9
open Go Go.AM Go.MK Go.Proofs.Tryz
noncomputable section
abbrev e_:=λa b c d=>AObj.arr (inV a) [Value.slice (some ⟨1,0,none⟩) b 18446744073709551620,Value.slice (some ⟨2,0,none⟩) c 18446744073709551620,Value.slice (some ⟨3,0,none⟩) d 18446744073709551620] 256 51
abbrev k_{A:Type}:=λ(a:List A)=>List.length a
abbrev Ku:=λa=>List.map deI (inV a)
abbrev Lq:=λa=>deN (glue (glue (inV a) []) [])
abbrev Lw:=λa=>d_ (inV a)
theorem Mn(Q:Value->AH->Prop)(C:AU->Le)(I:AU->Le)(d:Lg->AU->Li)(c:Lg->AU->La)(s:Int)(b:Li)(a:La):jSi Q C I d c s b a=(HFs [d_ (inV z256),P' b,S_ a,Lw (I (s,v_ b,n_ a)),Lw (C (s,v_ b,n_ a)),P' b,S_ a] (inV z256=inV z256/\LK s b a)/\HFs [Lw (C (s,v_ b,n_ a)),P' b,S_ a,Lw (I (s,v_ b,n_ a)),d_ (roV (c (Lq (I (s,v_ b,n_ a))) (s,v_ b,n_ a))),d_ (blV (d (Lq (I (s,v_ b,n_ a))) (s,v_ b,n_ a))),Lw (C (s,v_ b,n_ a)),P' b,S_ a,Lw (I (s,v_ b,n_ a))] (inV (C (s,v_ b,n_ a))=inV (Ku (C (s,v_ b,n_ a)))/\([]:Lh)=[]/\IsF (inV (I (s,v_ b,n_ a))) (k_ (I (s,v_ b,n_ a)))/\LK s b a/\s=s/\(0:Int)=(0:Int))/\F_ (C (s,v_ b,n_ a))/\F_ (I (s,v_ b,n_ a))/\Kt (blV (d (Lq (I (s,v_ b,n_ a))) (s,v_ b,n_ a)))/\Kt (roV (c (Lq (I (s,v_ b,n_ a))) (s,v_ b,n_ a)))/\Q i_ (K_ (Kw (Sg (O_ (c (Lq (I (s,v_ b,n_ a))) (s,v_ b,n_ a)))) (f_ (I (s,v_ b,n_ a)))) (e_ (C (s,v_ b,n_ a)) (k_ (I (s,v_ b,n_ a))) (k_ (d (Lq (I (s,v_ b,n_ a))) (s,v_ b,n_ a))) (k_ (c (Lq (I (s,v_ b,n_ a))) (s,v_ b,n_ a)))) (Sg (Z_ (d (Lq (I (s,v_ b,n_ a))) (s,v_ b,n_ a)))) 4)):=by kernel_rfl
theorem jSi_nf:type_of%(by have h:=@Mn;revert h;delta d_ e_ f_ h_ i_ k_ l_ n_ v_ F_ K_ O_ S_ Z_ P' Kt Ku Kw Lq Lw LK;exact id):=@Mn
theorem Mo(g:CF)(Q:Value->AH->Prop)(C:AU->AU->Le)(I:AU->AU->Le)(f:Lg->AU->AU->Li)(h:Lg->AU->AU->La)(s:Int)(b:Li)(d:La)(e:Int)(c:Li)(a:La):jPa g Q C I f h s b d e c a=(HFs [d_ (inV z256),P' b,S_ d,P' c,S_ a,Lw (I (s,v_ b,n_ d) (e,v_ c,n_ a)),Lw (C (s,v_ b,n_ d) (e,v_ c,n_ a)),P' b,S_ d,P' c,S_ a] (inV z256=inV z256/\LK s b d/\LK e c a)/\HFs [Lw (C (s,v_ b,n_ d) (e,v_ c,n_ a)),P' b,S_ d,P' c,S_ a,Lw (I (s,v_ b,n_ d) (e,v_ c,n_ a)),d_ (roV (h (Lq (I (s,v_ b,n_ d) (e,v_ c,n_ a))) (s,v_ b,n_ d) (e,v_ c,n_ a))),d_ (blV (f (Lq (I (s,v_ b,n_ d) (e,v_ c,n_ a))) (s,v_ b,n_ d) (e,v_ c,n_ a))),Lw (C (s,v_ b,n_ d) (e,v_ c,n_ a)),P' b,S_ d,P' c,S_ a,Lw (I (s,v_ b,n_ d) (e,v_ c,n_ a))] (inV (C (s,v_ b,n_ d) (e,v_ c,n_ a))=inV (Ku (C (s,v_ b,n_ d) (e,v_ c,n_ a)))/\([]:Lh)=[]/\IsF (inV (I (s,v_ b,n_ d) (e,v_ c,n_ a))) (k_ (I (s,v_ b,n_ d) (e,v_ c,n_ a)))/\AObj.cells [KL (CF.id g)] 43=AObj.cells [KL (CF.id g)] 43/\LK s b d/\LK e c a/\s=s/\e=e)/\F_ (C (s,v_ b,n_ d) (e,v_ c,n_ a))/\F_ (I (s,v_ b,n_ d) (e,v_ c,n_ a))/\Kt (blV (f (Lq (I (s,v_ b,n_ d) (e,v_ c,n_ a))) (s,v_ b,n_ d) (e,v_ c,n_ a)))/\Kt (roV (h (Lq (I (s,v_ b,n_ d) (e,v_ c,n_ a))) (s,v_ b,n_ d) (e,v_ c,n_ a)))/\Q i_ (K_ (Kw (Sg (O_ (h (Lq (I (s,v_ b,n_ d) (e,v_ c,n_ a))) (s,v_ b,n_ d) (e,v_ c,n_ a)))) (f_ (I (s,v_ b,n_ d) (e,v_ c,n_ a)))) (e_ (C (s,v_ b,n_ d) (e,v_ c,n_ a)) (k_ (I (s,v_ b,n_ d) (e,v_ c,n_ a))) (k_ (f (Lq (I (s,v_ b,n_ d) (e,v_ c,n_ a))) (s,v_ b,n_ d) (e,v_ c,n_ a))) (k_ (h (Lq (I (s,v_ b,n_ d) (e,v_ c,n_ a))) (s,v_ b,n_ d) (e,v_ c,n_ a)))) (Sg (Z_ (f (Lq (I (s,v_ b,n_ d) (e,v_ c,n_ a))) (s,v_ b,n_ d) (e,v_ c,n_ a)))) 4)):=by kernel_rfl
theorem jPa_nf:type_of%(by have h:=@Mo;revert h;delta d_ e_ f_ h_ i_ k_ l_ n_ v_ F_ K_ O_ S_ Z_ P' Kt Ku Kw KL Lq Lw LK;exact id):=@Mo
def dfB(C F:Le)(a:Li)(b:La):List AObj:=[dfO C [groS 1 F.length,groS 2 a.length,groS 3 b.length],groI F,groB a,groR b]
def hDf(C F:Le)(ac:Li)(rw:La):AH:=⟨(Nd (Nd (Nd Lf (some (groR rw)) Lf) (some (groI F)) Lf) (some (dfO C [groS 1 F.length,groS 2 ac.length,groS 3 rw.length])) (Nd Lf (some (groB ac)) Lf)),4⟩
theorem iD(C F:Le)(a:Li)(rw:La):aQ (dfB C F a rw)=hDf C F a rw:=by kernel_rfl
theorem k9{a:AU}(h:OkA a):okO (auCo a) a:=⟨rfl,h⟩
theorem si_gen(Q:Value->AH->Prop)(C I:AU->Le)(g:Lg->AU->Li)(f:Lg->AU->La){a:AU}(h:OkA a)(F:Lg)(k:I a=inF F)(l:∀ c∈F,c<256)(b:F.length<=256)
 (i:Q (.pointer (some ⟨0,0,none⟩)) (aQ (dfB (C a) (inF F) (g F a) (f F a)))):jSi Q C I g f a.1 a.2.1 a.2.2:=by
 obtain⟨s,d,j⟩:=a;refine(jSi_nf Q C I g f s d j).mpr ?_;rw[bf,bd,k];have e:deN (glue (glue (inV (inF F)) []) [])=F:=by exact fY F
 rw[e];rw[iD]at i;refine⟨⟨ab _,.dat (ax _),.dat (aq _),ab _,ab _,.dat (ax _),.dat (aq _),rfl,k9 h⟩,⟨ab _,.dat (ax _),.dat (aq _),ab _,aw _,au _,ab _,.dat (ax _),.dat (aq _),ab _,?_⟩,ab _,ab _,au _,aw _,i⟩;exact⟨by rw[cX],rfl,⟨by rw[fY],by rw[fY];exact l,by rw[fY];exact b,by rw[fY,ao]⟩,k9 h,rfl,rfl⟩
theorem pa_gen(g:CF)(Q:Value->AH->Prop)(C I:AU->AU->Le)(l:Lg->AU->AU->Li)(k:Lg->AU->AU->La){a b:AU}(h:OkA a)(n:OkA b)(F:Lg)(q:I a b=inF F)(r:∀ c∈F,c<256)(i:F.length<=256)
 (m:Q (.pointer (some ⟨0,0,none⟩)) (aQ (dfB (C a b) (inF F) (l F a b) (k F a b)))):jPa g Q C I l k a.1 a.2.1 a.2.2 b.1 b.2.1 b.2.2:=by
 obtain⟨s,j,p⟩:=a;obtain⟨o,d,f⟩:=b;refine(jPa_nf g Q C I l k s j p o d f).mpr ?_;rw[bf,bd,bf,bd,q];have e:deN (glue (glue (inV (inF F)) []) [])=F:=by exact fY F
 rw[e];rw[iD]at m;refine⟨⟨ab _,.dat (ax _),.dat (aq _),.dat (ax _),.dat (aq _),ab _,ab _,.dat (ax _),.dat (aq _),.dat (ax _),.dat (aq _),rfl,k9 h,k9 n⟩,⟨ab _,.dat (ax _),.dat (aq _),.dat (ax _),.dat (aq _),ab _,aw _,au _,ab _,.dat (ax _),.dat (aq _),.dat (ax _),.dat (aq _),ab _,?_⟩,ab _,ab _,au _,aw _,m⟩;exact⟨by rw[cX],rfl,⟨by rw[fY],by rw[fY];exact r,by rw[fY];exact i,by rw[fY,ao]⟩,rfl,k9 h,k9 n,rfl,rfl⟩
def fsS(a:AU):Lg:=clsF (keyS a.2.2) 256
def fsP(a b:AU):Lg:=clsF (keyP a.2.2 b.2.2) 256
def caS(a:AU):Le:=clsC (keyS a.2.2) 256
def caP2(a b:AU):Le:=clsC (keyP a.2.2 b.2.2) 256
def accS(a:AU):Li:=aceS (fsS a) a
def accP(g:CF)(a b:AU):Li:=aceP g (fsP a b) a b
def rowS(a:AU):La:=rweS (fsS a) a
def rowP(a b:AU):La:=rweP (fsP a b) a b
theorem CY{a:AU}(h:OkA a):WalkF env f25 [auV a] ⟨.leaf,0⟩ (.pointer (some ⟨0,0,none⟩)) (aQ (dfB (caS a) (inF (fsS a)) (accS a) (rowS a))):=
 aC XSi_ok (d:=1) (ns:=[]) (zs:=[]) (ws:=[]) (si_gen _ caS (λa=>clsI (keyS a.2.2) 256) aceS rweS h (fsS a) rfl (eJ _ _) (eK _ _) ⟨rfl,rfl⟩)
theorem Dn(g:CF){a b:AU}(h:OkA a)(c:OkA b):WalkF env f33 [auV a,auV b,clV g] ⟨.leaf,0⟩ (.pointer (some ⟨0,0,none⟩)) (aQ (dfB (caP2 a b) (inF (fsP a b)) (accP g a b) (rowP a b))):=
 aC (XPa_ok g) (d:=1) (ns:=[]) (zs:=[]) (ws:=[]) (pa_gen g _ caP2 (λa b=>clsI (keyP a.2.2 b.2.2) 256) (aceP g) rweP h c (fsP a b) rfl (eJ _ _) (eK _ _) ⟨rfl,rfl⟩)
end
end Go.T9
