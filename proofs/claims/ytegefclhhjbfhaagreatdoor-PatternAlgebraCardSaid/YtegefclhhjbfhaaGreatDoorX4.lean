/- A part of the proof. -/
import Derived.Test.YtegefclhhjbfhaaGreatDoorX3
import Derived.Test.YtegefclhhjbfhaaGreatDoorX2
import Derived.Test.YtegefclhhjbfhaaGreatDoorX1
set_option linter.unusedVariables false
set_option linter.unusedSimpArgs false
set_option linter.unusedSectionVars false
set_option maxRecDepth 1000000
namespace Go.T9
open Go Go.AM Go.MK Go.Proofs.Tryz
noncomputable section
def groI(l:Le):AObj:=.gro (inV l) [] 3
def groB(l:Li):AObj:=.gro (blV l) [] 4
def groR(l:La):AObj:=.gro (roV l) [] 49
def CB(C I:AU->Le):Lh->List AObj->Option (Ll×Value×List AObj)
 | [.pointer (some ⟨B,o,none⟩),.func (.func g) ⟨[]⟩ ⟨[.pointer (some ⟨B1,o1,none⟩)]⟩],[.arr els [.slice none 0 0,.slice none 0 0,.slice none 0 0] n e,u]=>(match auO u with
   | some a=>bif ((Nat.beq B 0&&Nat.beq o 0)&&(Nat.beq B1 1&&Nat.beq o1 0))&&(Nat.beq g 47&&(Nat.beq n 256&&Nat.beq e 51))then
    some (some (els=inV z256/\okO u a),.tuple ⟨[]⟩,[dfO (C a) [groS 2 (I a).length,nilS,nilS],u,groI (I a)])else none
   |_=>none)
 |_,_=>none
def spCs:=CB (λa=>clsC (keyS a.2.2) 256) (λa=>clsI (keyS a.2.2) 256)
def CC(C I:AU->AU->Le):Lh->List AObj->Option (Ll×Value×List AObj)
 | [.pointer (some ⟨B,o,none⟩),.func (.func g) ⟨[]⟩ ⟨[.pointer (some ⟨B1,o1,none⟩),.pointer (some ⟨B2,o2,none⟩)]⟩],[.arr els [.slice none 0 0,.slice none 0 0,.slice none 0 0] n e,u,v]=>(match auO u,auO v with
   | some a,some b=>bif ((Nat.beq B 0&&Nat.beq o 0)&&((Nat.beq B1 1&&Nat.beq o1 0)&&(Nat.beq B2 2&&Nat.beq o2 0)))&&(Nat.beq g 67&&(Nat.beq n 256&&Nat.beq e 51))then
    some (some (els=inV z256/\okO u a/\okO v b),.tuple ⟨[]⟩,[dfO (C a b) [groS 3 (I a b).length,nilS,nilS],u,v,groI (I a b)])else none
   |_,_=>none)
 |_,_=>none
def spCp:=CC (λa b=>clsC (keyP a.2.2 b.2.2) 256) (λa b=>clsI (keyP a.2.2 b.2.2) 256)
theorem EJ(C:Le)(a:AU):aS [dfO C [nilS,nilS,nilS],auCo a]=hCs0 C a.1 a.2.1 a.2.2:=by kernel_rfl
theorem zA(C F:Le)(a:AU):aS [dfO C [groS 2 F.length,nilS,nilS],auCo a,groI F]=hCsE C F a.1 a.2.1 a.2.2:=by kernel_rfl
theorem EK(C:Le)(a b:AU):aS [dfO C [nilS,nilS,nilS],auCo a,auCo b]=hCp0 C a.1 a.2.1 a.2.2 b.1 b.2.1 b.2.2:=by kernel_rfl
theorem zB(C F:Le)(a b:AU):aS [dfO C [groS 3 F.length,nilS,nilS],auCo a,auCo b,groI F]=hCpE C F a.1 a.2.1 a.2.2 b.1 b.2.1 b.2.2:=by kernel_rfl
theorem cs_tab:∀ args A p v A',frmR arD spCs args A=some (p,v,A')->PH p->CallAt env 46 args A v A':=aY ak (fn:=f46) rfl λargs f p v c h j=>by unfold spCs CB at h;split at h;rename_i B o g l i d n e u;split at h;rename_i a m;cases b:((Nat.beq B 0&&Nat.beq o 0)&&(Nat.beq l 1&&Nat.beq i 0))&&(Nat.beq g 47&&(Nat.beq n 256&&Nat.beq e 51));rw[b]at h;cases h;rw[b]at h;simp only[C',osI,GC]at h;obtain⟨rfl,rfl,rfl⟩:=h;simp only[f',GL]at b;obtain⟨⟨⟨rfl,rfl⟩,rfl,rfl⟩,rfl,rfl,rfl⟩:=b;obtain⟨rfl,rfl,k⟩:d=inV z256/\okO u a:=j;rw[zA];exact(EJ z256 a)▸FH k;cases h;cases h
theorem cp_tab:∀ args A p v A',frmR arD spCp args A=some (p,v,A')->PH p->CallAt env 46 args A v A':=aY ak (fn:=f46) rfl λargs i p v d h l=>by unfold spCp CC at h;split at h;rename_i B o g t k s j f n e u w;split at h;rename_i a b x m;cases c:((Nat.beq B 0&&Nat.beq o 0)&&((Nat.beq t 1&&Nat.beq k 0)&&(Nat.beq s 2&&Nat.beq j 0)))&&(Nat.beq g 67&&(Nat.beq n 256&&Nat.beq e 51));rw[c]at h;cases h;rw[c]at h;simp only[C',osI,GC]at h;obtain⟨rfl,rfl,rfl⟩:=h;simp only[f',GL]at c;obtain⟨⟨⟨rfl,rfl⟩,⟨rfl,rfl⟩,rfl,rfl⟩,rfl,rfl,rfl⟩:=c;obtain⟨rfl,⟨rfl,r⟩,rfl,q⟩:f=inV z256/\okO u a/\okO w b:=l;rw[zB];exact(EK z256 a b)▸FI r q;cases h;cases h
def deN(l:Lh):Lg:=l.map λv=>(deI v).toNat
theorem fg(F:Lg):deN (inV (inF F))=F:=by
 unfold deN inV inF;rw[Hl,Hl];conv=>rhs;rw[<-Il F]
 exact Ha λx _=>rfl
def IsF(l:Lh)(n:Nat):Prop:=l=inV (inF (deN l))/\(∀c∈deN l,c<256)/\(deN l).length<=256/\n=(deN l).length
def Cz(Ac:Lg->AU->Li)(Rw:Lg->AU->La):Lh->List AObj->Option (Ll×Value×List AObj)
 | [.pointer (some ⟨B,o,none⟩),.agg ⟨[.int .i64 x,.int .i64 y]⟩,.func (.func g) ⟨[]⟩ ⟨[.pointer (some ⟨B1,o1,none⟩)]⟩,.func (.func g2) ⟨[]⟩ ⟨[.pointer (some ⟨B2,o2,none⟩)]⟩],[.arr els [.slice (some ⟨B3,o3,none⟩) n m,.slice none 0 0,.slice none 0 0] q e,u,.gro l tl e2]=>(match auO u with
   | some a=>bif ((Nat.beq B 0&&Nat.beq o 0)&&((Nat.beq B1 1&&Nat.beq o1 0)&&(Nat.beq B2 1&&Nat.beq o2 0)))&&(((Nat.beq g 49&&Nat.beq g2 51)&&(Nat.beq q 256&&Nat.beq e 51))&&((Nat.beq B3 2&&Nat.beq o3 0)&&(Nat.beq m (unk+3+1)&&Nat.beq e2 3)))then
    some (some (els=inV (els.map deI)/\tl=[]/\IsF l n/\okO u a/\x=a.1/\y=0),.tuple ⟨[]⟩,[.arr els [groS 2 n,groS 3 (Ac (deN l) a).length,groS 4 (Rw (deN l) a).length] q e,u,.gro l [] e2,groB (Ac (deN l) a),groR (Rw (deN l) a)])else none
   |_=>none)
 |_,_=>none
def aceS(F:Lg)(a:AU):Li:=(reS F a).map (acS a)
def rweS(F:Lg)(a:AU):La:=ba (scF F (stS a)) (reS F a) (reS F a).length
def spEs:=Cz aceS rweS
def CA(g:CF)(Ac:Lg->AU->AU->Li)(Rw:Lg->AU->AU->La):Lh->List AObj->Option (Ll×Value×List AObj)
 | [.pointer (some ⟨B,o,none⟩),.agg ⟨[.int .i64 x,.int .i64 y]⟩,.func (.func gg) ⟨[]⟩ ⟨[.pointer (some ⟨B0,o0,none⟩),.pointer (some ⟨B1,o1,none⟩),.pointer (some ⟨B2,o2,none⟩)]⟩,.func (.func g2) ⟨[]⟩ ⟨[.pointer (some ⟨B4,o4,none⟩),.pointer (some ⟨B5,o5,none⟩)]⟩],[.arr els [.slice (some ⟨B3,o3,none⟩) n m,.slice none 0 0,.slice none 0 0] q e,f,u,w,.gro l tl e2]=>(match auO u,auO w with
   | some a,some b=>bif ((Nat.beq B 0&&Nat.beq o 0)&&(((Nat.beq B0 1&&Nat.beq o0 0)&&((Nat.beq B1 2&&Nat.beq o1 0)&&(Nat.beq B2 3&&Nat.beq o2 0)))&&((Nat.beq B4 2&&Nat.beq o4 0)&&(Nat.beq B5 3&&Nat.beq o5 0))))&&(((Nat.beq gg 68&&Nat.beq g2 69)&&(Nat.beq q 256&&Nat.beq e 51))&&((Nat.beq B3 4&&Nat.beq o3 0)&&(Nat.beq m (unk+3+1)&&Nat.beq e2 3)))then
    some (some (els=inV (els.map deI)/\tl=[]/\IsF l n/\f=fnO g/\okO u a/\okO w b/\x=a.1/\y=b.1),.tuple ⟨[]⟩,[.arr els [groS 4 n,groS 5 (Ac (deN l) a b).length,groS 6 (Rw (deN l) a b).length] q e,f,u,w,.gro l [] e2,groB (Ac (deN l) a b),groR (Rw (deN l) a b)])else none
   |_,_=>none)
 |_,_=>none
def aceP(g:CF)(F:Lg)(a b:AU):Li:=(reP F a b).map (acP2 g a b)
def rweP(F:Lg)(a b:AU):La:=ba (scF F (stP a b)) (reP F a b) (reP F a b).length
def spEp(g:CF):=CA g (aceP g) rweP
theorem EG(C F:Le)(a:AU):aS [dfO C [groS 2 F.length,nilS,nilS],auCo a,groI F]=hEs0 C F a.1 a.2.1 a.2.2:=by kernel_rfl
theorem zx(C F:Le)(ac:Li)(rw:La)(a:AU):aS [dfO C [groS 2 F.length,groS 3 ac.length,groS 4 rw.length],auCo a,groI F,groB ac,groR rw]=hEsE C F ac rw a.1 a.2.1 a.2.2:=by kernel_rfl
theorem EH(g:CF)(C F:Le)(a b:AU):aS [dfO C [groS 4 F.length,nilS,nilS],fnO g,auCo a,auCo b,groI F]=hEp0 g C F a.1 a.2.1 a.2.2 b.1 b.2.1 b.2.2:=by kernel_rfl
theorem zy(g:CF)(C F:Le)(ac:Li)(rw:La)(a b:AU):aS [dfO C [groS 4 F.length,groS 5 ac.length,groS 6 rw.length],fnO g,auCo a,auCo b,groI F,groB ac,groR rw]=hEpE g C F ac rw a.1 a.2.1 a.2.2 b.1 b.2.1 b.2.2:=by kernel_rfl
theorem bA{a :Type}{b:Bool}{x y: a}(h:(bif b then some x else none)=some y):b=true/\x=y:=by
 cases b with
 |true=>exact⟨rfl,Hk h⟩
 |false=>cases h
theorem es_tab:∀ args A p v A',frmR arD spEs args A=some (p,v,A')->PH p->CallAt env 50 args A v A':=aY ak (fn:=f50) rfl λargs d p v c h k=>by unfold spEs Cz at h;split at h;rename_i B o x y g L E H K D b J z n m q e u l j I;split at h;rename_i a G;obtain⟨f,h⟩:=bA h;simp only[GC]at h;obtain⟨rfl,rfl,rfl⟩:=h;simp only[f',GL]at f;obtain⟨⟨⟨rfl,rfl⟩,⟨rfl,rfl⟩,rfl,rfl⟩,⟨⟨rfl,rfl⟩,rfl,rfl⟩,⟨rfl,rfl⟩,rfl,rfl⟩:=f;obtain⟨i,rfl,⟨w,t,s,rfl⟩,⟨rfl,r⟩,rfl,rfl⟩:b=inV (b.map deI)/\j=[]/\IsF l n/\okO u a/\x=a.1/\y=0:=k;generalize b.map deI=C at i;subst i;generalize deN l=F at*;subst w;have:=Fi C F t s r;rw[<-EG,<-zx,aw]at this;exact this;cases h;cases h
theorem ep_tab{g:CF}:∀ args A p v A',frmR arD (spEp g) args A=some (p,v,A')->PH p->CallAt env 50 args A v A':=aY ak (fn:=f50) rfl λargs i p v d h s=>by unfold spEp CA at h;split at h;rename_i B o x y P Z N Y M X L Q U J S I c V K n m q e f u w l r R;split at h;rename_i a b O t;obtain⟨j,h⟩:=bA h;simp only[GC]at h;obtain⟨rfl,rfl,rfl⟩:=h;simp only[f',GL]at j;obtain⟨⟨⟨rfl,rfl⟩,⟨⟨rfl,rfl⟩,⟨rfl,rfl⟩,rfl,rfl⟩,⟨rfl,rfl⟩,rfl,rfl⟩,⟨⟨rfl,rfl⟩,rfl,rfl⟩,⟨rfl,rfl⟩,rfl,rfl⟩:=j;obtain⟨k,rfl,⟨H,G,E,rfl⟩,rfl,⟨rfl,D⟩,⟨rfl,z⟩,rfl,rfl⟩:c=inV (c.map deI)/\r=[]/\IsF l n/\f=fnO g/\okO u a/\okO w b/\x=a.1/\y=b.1:=s;generalize c.map deI=C at k;subst k;generalize deN l=F at*;subst H;have:=Fo g C F G E D z;rw[<-EH g,<-zy g,aw]at this;exact this;cases h;cases h
def XSiG(C I:AU->Le)(Ac:Lg->AU->Li)(Rw:Lg->AU->La):SX:=⟨env,[(46,frmR arD (CB C I)),(50,frmR arD (Cz Ac Rw))],noEl,λ_=>.unroll 0⟩
def XSi:SX:=XSiG (λa=>clsC (keyS a.2.2) 256) (λa=>clsI (keyS a.2.2) 256) aceS rweS
theorem XSi_ok:XSi.Ok:=⟨ak,aA,an,.cons cs_tab (.cons es_tab .nil)⟩
def XPaG(g:CF)(C I:AU->AU->Le)(Ac:Lg->AU->AU->Li)(Rw:Lg->AU->AU->La):SX:=⟨env,[(46,frmR arD (CC C I)),(50,frmR arD (CA g Ac Rw))],noEl,λ_=>.unroll 0⟩
def XPa(g:CF):SX:=XPaG g (λa b=>clsC (keyP a.2.2 b.2.2) 256) (λa b=>clsI (keyP a.2.2 b.2.2) 256) (aceP g) rweP
theorem XPa_ok(g:CF):(XPa g).Ok:=⟨ak,aA,an,.cons cp_tab (.cons ep_tab .nil)⟩
def jSi(Q:Value->AH->Prop)(C I:AU->Le)(Ac:Lg->AU->Li)(Rw:Lg->AU->La)(s:Int)(acc:Li)(nx:La):Prop:=bc (XSiG C I Ac Rw) 1 f25 [.agg ⟨[.int .i64 s,dat 1 (blV acc),dat 1 (roV nx)]⟩] ⟨.leaf,0⟩ (endF env ⟨.leaf,0⟩ [] [] [] Q)
def jPa(g:CF)(Q:Value->AH->Prop)(C I:AU->AU->Le)(Ac:Lg->AU->AU->Li)(Rw:Lg->AU->AU->La)(s:Int)(acc:Li)(nx:La)(s2:Int)(acc2:Li)(nx2:La):Prop:=bc (XPaG g C I Ac Rw) 1 f33 [.agg ⟨[.int .i64 s,dat 1 (blV acc),dat 1 (roV nx)]⟩,.agg ⟨[.int .i64 s2,dat 1 (blV acc2),dat 1 (roV nx2)]⟩,clV g] ⟨.leaf,0⟩ (endF env ⟨.leaf,0⟩ [] [] [] Q)
end
end Go.T9
namespace Go.T9
abbrev QW:=List (Int×List UInt8)
variable {s t:Int}{by' fr:Le}{sn:Li}{w:List UInt8}{n:Nat}{q:QW}
def qs(q:QW):Le:=q.map (·.1)
theorem u3(q r:QW):qs (q++r)=qs q++qs r:=List.map_append
theorem AC(q:QW):(qs q).length=q.length:=GB _
structure SQ (n:Nat) (q:QW) (sn:Li):Prop where
 ls:sn.length=n
 rng:∀ x∈q,0<=x.1/\x.1<n
 nd:(qs q).Nodup
 se:∀ s:Nat,s<n->sn.getD s false=decide ((s:Int)∈qs q)
 wl:∀ x∈q,x.2.length<=q.length
theorem fC{a :Type}(l:List a)(i j:Nat)(x d: a)(h:i<l.length):(l.set i x).getD j d=if i=j then x else l.getD j d:=by rw[List.getD_eq_getElem?_getD,Hq,List.getD_eq_getElem?_getD];by_cases e:i=j;subst e;simp[h];simp[e]
theorem SQ.add(h:SQ n q sn)(m:0<=t)(l:t<n)(j:¬ t∈qs q)(w:List UInt8)(f:w.length<=q.length+1):SQ n (q++[(t,w)]) (sn.set t.toNat true):=by
 have g:t.toNat<sn.length:=by rw[h.ls];omega
 have o:(t.toNat:Int)=t:=by omega
 refine⟨by rw[GP];exact h.ls,λx c=>?_,?_,λs i=>?_,λx c=>?_⟩;rotate_right;rw[Gx];rcases GW.1 c with c|c;have:=h.wl x c;simp;omega;simp only[Hi]at c;subst c;simpa using f;rcases GW.1 c with c|c;exact h.rng x c;simp only[Hi]at c;subst c;exact⟨m,l⟩;rw[u3];refine List.nodup_append.2 ⟨h.nd,by simp[qs],λa k b d=>?_⟩;simp only[qs,Hj,Jy,Hi]at d;subst d;exact λe=>j (e▸k);rw[fC _ _ _ _ _ g,u3];by_cases e:t.toNat=s;subst e;rw[Gw rfl,o];simp[qs];rw[D' e,h.se s i];have:¬ (s:Int)=t:=by omega
 congr 1;simp only[GW,qs,Hj,Jy,Hi,this,Jl]
theorem SQ.seen(h:SQ n q sn)(c:0<=t)(b:t<n):sn.getD t.toNat false=decide (t∈qs q):=by
 have a:(t.toNat:Int)=t:=by omega
 rw[h.se _ (by omega),a]
theorem SQ.le(h:SQ n q sn):q.length<=n:=by have:=cE n ((qs q).map Int.toNat) ?_ λx d=>?_;simpa[qs]using this;refine List.Pairwise.map _ ?_ (JM.1 h.nd);rintro a b ⟨j,i,g⟩ e;obtain⟨x,d,rfl⟩:=GA.1 j;obtain⟨y,c,rfl⟩:=GA.1 i;have:=h.rng x d;have:=h.rng y c;omega;obtain⟨y,c,rfl⟩:=GA.1 d;obtain⟨z,f,rfl⟩:=GA.1 c;have:=h.rng z f;omega
theorem SQ.init(n:Nat)(c:0<=s)(b:s<n):SQ n [(s,[])] ((List.replicate n false).set s.toNat true):=by have:=(SQ.add (n:=n) (q:=[]) (sn:=List.replicate n false) ⟨by simp,by simp,by simp[qs],λs a=>by simp[qs,List.getD_eq_getElem?_getD,List.getElem?_replicate,a],by simp⟩ c b (by simp[qs]) [] (by simp));simpa using this
structure BQ (n:Nat) (q:QW) (fr by':Le):Prop where
 lf:fr.length=n
 lb:by'.length=n
 hd:(0,[])∈q
 wd:∀ x∈q,x=(0,[])∨(x.1≠0/\∃ y∈q,∃b:UInt8,fr.getD x.1.toNat 0=y.1/\by'.getD x.1.toNat 0=(b.toNat:Int)/\x.2=y.2++[b])
theorem BQ.add(l:SQ n q sn)(h:BQ n q fr by')(u:0<=t)(r:t<n)(f:¬ t∈qs q){y:Int×List UInt8}(k:y∈q)(b:UInt8):
 BQ n (q++[(t,y.2++[b])]) (fr.set t.toNat y.1) (by'.set t.toNat (b.toNat:Int)):=by
 have g:t.toNat<fr.length:=by rw[h.lf];omega
 have i:t.toNat<by'.length:=by rw[h.lb];omega
 refine⟨by rw[GP];exact h.lf,by rw[GP];exact h.lb,GW.2 (.inl h.hd),λx a=>?_⟩;rcases GW.1 a with a|a;rcases h.wd x a with e|⟨e,z,j,c,p,o,m⟩;exact .inl e;have d:¬ t.toNat=x.1.toNat:=λv=>by
  have:=l.rng x a;have:t=x.1:=by omega
  exact f (this▸GA.2 ⟨x,a,rfl⟩)
 refine .inr ⟨e,z,GW.2 (.inl j),c,?_,?_,m⟩;rw[fC _ _ _ _ _ g,D' d];exact p;rw[fC _ _ _ _ _ i,D' d];exact o;simp only[Hi]at a;subst a;refine .inr ⟨λe=>f ?_,y,GW.2 (.inl k),b,?_,?_,rfl⟩;dsimp only at e;rw[e];exact GA.2 ⟨_,h.hd,rfl⟩;rw[fC _ _ _ _ _ g,Gw rfl];rw[fC _ _ _ _ _ i,Gw rfl]
theorem vp(h:(qs q).Nodup){w':List UInt8}(d:(s,w)∈q)(c:(s,w')∈q):w=w':=by
 induction q with
 |nil=>simp at d
 |cons x q e=>simp only[qs,Hj,List.nodup_cons]at h;rcases GI.1 d with b|b;rcases GI.1 c with a|a;rw[<-a]at b;exact(Prod.mk.inj b).2;rw[<-b]at h;exact absurd (GA.2 ⟨_,a,rfl⟩) h.1;rcases GI.1 c with a|a;rw[<-a]at h;exact absurd (GA.2 ⟨_,b,rfl⟩) h.1;exact e h.2 b a
theorem BQ.zero(b:SQ n q sn)(h:BQ n q fr by')(a:((0:Int),w)∈q):w=[]:=vp b.nd a h.hd
theorem BQ.back(h:BQ n q fr by')(d:(s,w)∈q)(f:s≠0):∃ a w' b,(a,w')∈q/\fr.getD s.toNat 0=a/\by'.getD s.toNat 0=((b:UInt8).toNat:Int)/\w=w'++[b]:=by rcases h.wd _ d with e|⟨_,y,c,b,j,i,g⟩;exact absurd (Prod.mk.inj e).1 f;exact⟨y.1,y.2,b,c,j,i,g⟩
theorem BQ.init(n:Nat):BQ n [(0,[])] (List.replicate n 0) (List.replicate n 0):=⟨by simp,by simp,by simp,λx a=>.inl (by simpa using a)⟩
structure WQ (n:Nat) (q:QW) (wd:List (List UInt8)):Prop where
 lw:wd.length=n
 ww:∀ x∈q,wd.getD x.1.toNat []=x.2
theorem WQ.add{b:List (List UInt8)}(e:SQ n q sn)(h:WQ n q b)(i:0<=t)(g:t<n)(f:¬ t∈qs q)(w:List UInt8):WQ n (q++[(t,w)]) (b.set t.toNat w):=by
 have d:t.toNat<b.length:=by rw[h.lw];omega
 refine⟨by rw[GP];exact h.lw,λx a=>?_⟩;rw[fC _ _ _ _ _ d];rcases GW.1 a with a|a;have c:¬ t.toNat=x.1.toNat:=λj=>by
  have:=e.rng x a;have:t=x.1:=by omega
  exact f (this▸GA.2 ⟨x,a,rfl⟩)
 rw[D' c];exact h.ww x a;simp only[Hi]at a;subst a;rw[Gw rfl]
theorem WQ.init(n:Nat)(b:s.toNat<n):WQ n [(s,[])] (List.replicate n []):=⟨by simp,λx a=>by simp only[Hi]at a;subst a;simp[List.getD_eq_getElem?_getD,List.getElem?_replicate,b]⟩
structure RevI {α :Type}(l l':List α) (k:Nat):Prop where
 len:l'.length=l.length
 at':∀ t,t<l.length->l'[t]? =if t<k∨l.length<=t+k then l[l.length-1-t]? else l[t]?
theorem RevI.init{a :Type}(l:List a):RevI l l 0:=⟨rfl,λt h=>by rw[D' (by omega)]⟩
theorem RevI.step{a :Type}{l l':List a}{k:Nat}(h:RevI l l' k)(o:k+1<l.length-k){x y: a}(i:l'[k]? =some x)(g:l'[l.length-1-k]? =some y):RevI l ((l'.set k y).set (l.length-1-k) x) (k+1):=by have c:=h.at' k (by omega);rw[D' (by omega),i]at c;have b:=h.at' (l.length-1-k) (by omega);rw[D' (by omega),g]at b;refine⟨by rw[GP,GP];exact h.len,λt j=>?_⟩;have m:=h.len;rw[Hq,GP];by_cases f:l.length-1-k=t;rw[Gw f,Gw (by omega),Gw (by omega),c];congr 1;omega;rw[D' f,Hq];by_cases e:k=t;subst e;rw[Gw rfl,Gw (by omega),Gw (by omega),b];rw[D' e,h.at' t j];by_cases d:t<k∨l.length<=t+k;rw[Gw d,Gw (by omega)];rw[D' d,D' (by omega)]
theorem RevI.done{b :Type}{l l':List b}{k:Nat}(h:RevI l l' k)(e:l.length<=2*k+1):l'=l.reverse:=by refine II λt=>?_;have d:=h.len;rcases Hg t l.length with a|a;rw[h.at' t a,List.getElem?_reverse a];by_cases c:t<k∨l.length<=t+k;rw[Gw c];rw[D' c];congr 1;omega;rw[Hw (by omega),Hw (by rw[List.length_reverse];exact a)]
section
variable {S:Type}[DecidableEq S] {B:Type}
theorem xU(w:List B)(x:B×S)(l:List (B×S))(q:List (S×List B)):addW w q (l++[x])=if x.2∈(addW w q l).map (·.1)then addW w q l else addW w q l++[(x.2,w++[x.1])]:=by rw[eC];rfl
theorem nD(w:List B):∀ (l:List (B×S)) (q:List (S×List B)),∃r,addW w q l=q++r
 | [],q=>⟨[],by simp[addW]⟩
 |x::l,q=>by simp only[addW];split;exact nD w l q;obtain⟨r,h⟩:=nD w l (q++[(x.2,w++[x.1])]);exact⟨(x.2,w++[x.1])::r,by rw[h];simp⟩
theorem bfs_at{sc:S->List (B×S)}{ac:S->Bool}{m:Nat}{q:List (S×List B)}{i:Nat}{x:S×List B}(h:q[i]? =some x):bfs sc ac (m+1) q i=if ac x.1 then some x.2 else bfs sc ac m (addW x.2 q (sc x.1)) (i+1):=by simp only[bfs,h]
theorem F9{sc:S->List (B×S)}{ac:S->Bool}(m:Nat){q:List (S×List B)}{i:Nat}(h:q.length<=i):bfs sc ac m q i=none:=by
 cases m with
 |zero=>rfl
 |succ m=>simp only[bfs,Hw h]
end
theorem EA{K:Type}[DecidableEq K]{l:List K}{a b:K}(e:a∈l)(d:b∈l)(h:idN l a=idN l b):a=b:=by have c:=gP e;rw[h,gP d]at c;exact(Hk c).symm
section
variable {S:Type}[DecidableEq S]
theorem EI.run{sc:S->List S}{P:S->Prop}{N:Nat}{st:S}(b:∀ k,P k->∀ s∈sc k,P s)(c:∀ l:List S,l.Nodup->(∀k∈l,P k)->l.length<N):∀ (m:Nat) {ks:List S}{i:Nat},EI sc P N st ks i->N-i=m->EI sc P N st (exS sc N [st] 0) (exS sc N [st] 0).length
 | m,ks,i,h,hm=>by
  have d:=c ks h.nd h.inp;rcases Hg i ks.length with a|a;cases m with
  |zero=>omega
  |succ m=>exact EI.run b c m (h.step b (E' a) (by omega)).1 (by omega)
  obtain⟨f,e⟩:=h.done a d;rw[<-e,<-f];exact h
def scW(st:S->Nat->S)(F:Lg)(s:S):List (UInt8×S):=F.map λc=>(UInt8.ofNat c,st s c)
def scD(F:Lg)(rw:La)(s:Int):List (UInt8×Int):=(F.map UInt8.ofNat).zip (rw.getD s.toNat [])
def acD(ac:Li)(s:Int):Bool:=ac.getD s.toNat false
theorem F8{st:S->Nat->S}{F:Lg}{sc:S->List S}(g:∀ k,sc k=F.map (st k)){P:S->Prop}{N:Nat}{d:S}{ks:List S}(h:EI sc P N d ks ks.length)(ac:S->Bool)(k:Nat):
 bfs (scD F (ba sc ks ks.length)) (acD (ks.map ac)) k [(0,[])] 0=bfs (scW st F) ac k [(d,[])] 0:=by
 have q:d∈ks:=GM h.hd;have r:((idN ks d:Nat):Int)=0:=by
  have hd:=h.hd;cases ks with
  |nil=>simp at hd
  |cons x ks=>simp at hd;subst hd;simp[idN]
 have:=xG (f:=λs=>((idN ks s:Nat):Int)) (P:=λs=>s∈ks) (λa b p o e=>EA p o (Int.ofNat.inj e)) (sc:=scW st F) (sc2:=scD F (ba sc ks ks.length)) (ac:=ac) (ac2:=acD (ks.map ac)) (λs l=>?_) (λs l=>?_) k [(d,[])] 0 (λx j=>?_);rw[Hj,Jy]at this;dsimp only at this;rw[r]at this;exact this;have i:=gP l;have m:=lk l;refine⟨?_,λx j=>?_⟩;unfold scD ba scW;rw[Gz,Hm,List.getD_eq_getElem?_getD,GR,i];simp only[Hx,Ip,g,nums,Hl];rw[List.zip_map', ];rfl;obtain⟨c,n,rfl⟩:=GA.1 j;exact h.cl (idN ks s) s m i _ (by rw[g];exact GA.2 ⟨c,n,rfl⟩);unfold acD;rw[Gz,List.getD_eq_getElem?_getD,GR,gP l];rfl;simp only[Hi]at j;subst j;exact q
end
end Go.T9
set_option maxRecDepth 100000
namespace Go.T9
open Go Go.AM Go.MK
variable {b:AU}{c c':Nat}
def ftC(key:Nat->LB)(c:Nat):Bool:= !decide (key c∈(clsF key c).map key)
theorem ky(key:Nat->LB):∀ n,clsF key n=(List.range n).filter (ftC key)
 |0=>rfl
 |n+1=>by rw[I2,In,<-ky key n];show(if key n∈(clsF key n).map key then clsF key n else clsF key n++[n])=_;by_cases h:key n∈(clsF key n).map key;rw[Gw h];simp[List.filter_cons,ftC,h];rw[D' h,List.filter_cons,List.filter_nil,Gw (by simp[ftC,h])]
theorem Ad{S:Type}[DecidableEq S]{key:Nat->LB}{g:Nat->S}(a:∀ c c',c<256->c'<256->key c'=key c->g c'=g c)(w:LB)(q:List (S×LB)):
 addW w q ((List.range 256).map λc=>(UInt8.ofNat c,g c))=addW w q ((clsF key 256).map λc=>(UInt8.ofNat c,g c)):=by rw[ky];refine lO w q 256 λc d h=>?_;simp only[ftC,IX,GQ]at h;obtain⟨c',f,e⟩:=GA.1 h;have:=cA key c c' f;exact⟨c',this,a c c' d (by omega) e⟩
theorem Ga{S:Type}[DecidableEq S]{key:Nat->LB}{st:S->Nat->S}{P:S->Prop}(g:∀ s,P s->∀ c c',c<256->c'<256->key c'=key c->st s c'=st s c)(f:∀ s,P s->∀ c,c<256->P (st s c))(ac:S->Bool)(k:Nat)(e:S)(i:P e):
 bfs (scW st (clsF key 256)) ac k [(e,[])] 0=bfs (scW st (List.range 256)) ac k [(e,[])] 0:=
 pa (P:=P) (λs d w q=>(Ad (g s d) w q).symm) (λs d x a=>by
  obtain⟨c,h,rfl⟩:=GA.1 a;exact f s d c (cA key 256 c h)) (λs d=>rfl) k _ _ λx a=>by
  simp only[Hi]at a;subst a;exact i
theorem su:∀ {nx:La}{c c':Nat},(∀r∈nx,∀d,0<=r.getD d 0/\r.getD d 0<65536)->colB nx c'=colB nx c->∀ r∈nx,r.getD c' 0=r.getD c 0
 | [],_,_,_,_,r,a=>by simp at a
 |x::nx,c,c',h,e,r,a=>by have e:b2 (x.getD c' 0)++colB nx c'=b2 (x.getD c 0)++colB nx c:=e;obtain⟨j,i⟩:=List.append_inj e rfl;rcases GI.1 a with rfl|a;have g:=h r (by simp) c';have f:=h r (by simp) c;exact b2_inj g.1 g.2 f.1 f.2 j;exact su (λr a=>h r (by simp[a])) i r a
theorem ent_lt{a:AU}(h:OkA a):∀ r∈a.2.2,∀d,0<=r.getD d 0/\r.getD d 0<65536:=λr e d=>by
 have f:=h.n1;rw[List.getD_eq_getElem?_getD];cases hd:r[d]? with
 |none=>simp
 |some x=>have:=h.ent r e x (GM hd);simp only[Ip];omega
theorem pq{a:AU}(h:OkA a){q:Int}(g:colB a.2.2 c'=colB a.2.2 c):stp a.2.2 q c'=stp a.2.2 q c:=by
 show(a.2.2.getD q.toNat []).getD c' 0=(a.2.2.getD q.toNat []).getD c 0;have e:∀ r,a.2.2.getD q.toNat []=r->r.getD c' 0=r.getD c 0:=λr d=>by
  rw[List.getD_eq_getElem?_getD]at d;cases f:a.2.2[q.toNat]? with
  |none=>rw[f]at d;subst d;rfl
  |some x=>rw[f]at d;subst d;exact su (ent_lt h) g _ (GM f)
 exact e _ rfl
theorem uw{a:AU}(h:OkA a)(e:OkA b)(k:PR)(d:keyP a.2.2 b.2.2 c'=keyP a.2.2 b.2.2 c):stP a b k c'=stP a b k c:=by unfold keyP at d;obtain⟨g,f⟩:=List.append_inj d (by rw[pb,pb]);unfold stP;rw[pq h g,pq e f]
theorem Cr{a:AU}(h:OkA a)(k:PR)(d:keyS a.2.2 c'=keyS a.2.2 c):stS a k c'=stS a k c:=by unfold stS;rw[pq h d]
def kK(a b:AU):Option LB:=bfs (scW (stP a b) (List.range 256)) (acP2 .c0 a b) 90001 [((a.1,b.1),[])] 0
theorem inP_st{a:AU}(h:OkA a)(f:OkA b)(k:PR)(d:inP2 a b k)(c:Nat)(e:c<256):inP2 a b (stP a b k c):=
 ⟨eM h d.1.1 d.1.2 e,eM f d.2.1 d.2.2 e⟩
theorem ei_P{a:AU}(h:OkA a)(d:OkA b){F:Lg}(f:∀ c∈F,c<256):EI (scF F (stP a b)) (inP2 a b) 90001 (a.1,b.1) (reP F a b) (reP F a b).length:=
 EI.run (mT h d f) (λl hd e=>by have:=kf h d l hd e;omega) _ (EI.init ⟨h.st,d.st⟩) rfl
theorem ei_S{a:AU}(h:OkA a){F:Lg}(e:∀ c∈F,c<256):EI (scF F (stS a)) (inS a) 90001 (a.1,0) (reS F a) (reS F a).length:=
 EI.run (mS h e) (λl hd d=>by have:=v8 h l hd d;omega) _ (EI.init ⟨h.st,rfl⟩) rfl
theorem word_P{a:AU}(h:OkA a)(d:OkA b)(F:Lg)(g:F=clsF (keyP a.2.2 b.2.2) 256):
 bfs (scD F (ba (scF F (stP a b)) (reP F a b) (reP F a b).length)) (acD ((reP F a b).map (acP2 .c0 a b))) 90001 [(0,[])] 0=kK a b:=by
 have e:∀ c∈F,c<256:=λc f=>by rw[g]at f;exact cA _ _ _ f
 have l:=F8 (sc:=scF F (stP a b)) (st:=stP a b) (λk=>rfl) (ei_P h d e) (acP2 .c0 a b) 90001;have i:=Ga (key:=keyP a.2.2 b.2.2) (st:=stP a b) (P:=inP2 a b) (λs m c c' _ _ j=>uw h d s j) (inP_st h d) (acP2 .c0 a b) 90001 (a.1,b.1) ⟨h.st,d.st⟩;rw[<-g]at i;unfold kK;exact l.trans i
end Go.T9
set_option maxRecDepth 1000000
namespace Go.T9
open Go Go.AM Go.MK Go.Proofs.Tryz
noncomputable section
abbrev d_:=λa b c d=>AObj.arr (inV a) [Value.slice (some ⟨1,0,none⟩) b 18446744073709551620,Value.slice (some ⟨2,0,none⟩) c 18446744073709551620,Value.slice (some ⟨3,0,none⟩) d 18446744073709551620] 256 51
abbrev n_{A:Type}:=λ(a:List A)=>List.length a
abbrev Q_:=λa=>List.map deI (inV a)
abbrev Z':=λa=>deN (glue (glue (inV a) []) [])
theorem KE(Q:Value->AH->Prop)(C:AU->Le)(I:AU->Le)(Ac:Lg->AU->Li)(Rw:Lg->AU->La)(s:Int)(acc:Li)(nx:La):jSi Q C I Ac Rw s acc nx=(HFs [j_ (inV z256),O_ acc,E_ nx,j_ (inV (I (s,g_ acc,c_ nx))),j_ (inV (C (s,g_ acc,c_ nx))),O_ acc,E_ nx] (PH (Prod.fst (some (inV z256=inV z256/\okO (k_ s acc nx) (s,g_ acc,c_ nx)),J6,[AObj.arr (inV (C (s,g_ acc,c_ nx))) [h_ 2 0 (n_ (I (s,g_ acc,c_ nx))),C_,C_] 256 51,k_ s acc nx,i_ (I (s,g_ acc,c_ nx))])))/\HFs [j_ (inV (C (s,g_ acc,c_ nx))),O_ acc,E_ nx,j_ (inV (I (s,g_ acc,c_ nx))),j_ (roV (Rw (Z' (I (s,g_ acc,c_ nx))) (s,g_ acc,c_ nx))),j_ (blV (Ac (Z' (I (s,g_ acc,c_ nx))) (s,g_ acc,c_ nx))),j_ (inV (C (s,g_ acc,c_ nx))),O_ acc,E_ nx,j_ (inV (I (s,g_ acc,c_ nx)))] (PH (Prod.fst (some (inV (C (s,g_ acc,c_ nx))=inV (Q_ (C (s,g_ acc,c_ nx)))/\([]:Lh)=[]/\IsF (inV (I (s,g_ acc,c_ nx))) (n_ (I (s,g_ acc,c_ nx)))/\okO (k_ s acc nx) (s,g_ acc,c_ nx)/\s=s/\(0:Int)=(0:Int)),J6,[AObj.arr (inV (C (s,g_ acc,c_ nx))) [h_ 2 0 (n_ (I (s,g_ acc,c_ nx))),h_ 3 0 (n_ (Ac (Z' (I (s,g_ acc,c_ nx))) (s,g_ acc,c_ nx))),h_ 4 0 (n_ (Rw (Z' (I (s,g_ acc,c_ nx))) (s,g_ acc,c_ nx)))] 256 51,k_ s acc nx,i_ (I (s,g_ acc,c_ nx)),X_ (Ac (Z' (I (s,g_ acc,c_ nx))) (s,g_ acc,c_ nx)),L_ (Rw (Z' (I (s,g_ acc,c_ nx))) (s,g_ acc,c_ nx))])))/\Kb (C (s,g_ acc,c_ nx))/\Kb (I (s,g_ acc,c_ nx))/\l_ (blV (Ac (Z' (I (s,g_ acc,c_ nx))) (s,g_ acc,c_ nx)))/\l_ (roV (Rw (Z' (I (s,g_ acc,c_ nx))) (s,g_ acc,c_ nx)))/\Q m_ (V_ (J5 (Sg (L_ (Rw (Z' (I (s,g_ acc,c_ nx))) (s,g_ acc,c_ nx)))) (i_ (I (s,g_ acc,c_ nx)))) (d_ (C (s,g_ acc,c_ nx)) (n_ (I (s,g_ acc,c_ nx))) (n_ (Ac (Z' (I (s,g_ acc,c_ nx))) (s,g_ acc,c_ nx))) (n_ (Rw (Z' (I (s,g_ acc,c_ nx))) (s,g_ acc,c_ nx)))) (Sg (X_ (Ac (Z' (I (s,g_ acc,c_ nx))) (s,g_ acc,c_ nx)))) 4)):=by kernel_rfl
theorem jSi_nf:type_of%(by have h:=@KE;revert h;delta b_ c_ d_ g_ h_ i_ j_ k_ l_ m_ n_ o_ C_ E_ L_ O_ Q_ V_ X_ Z' J5 J6 Kb;exact id):=@KE
theorem KG(g:CF)(Q:Value->AH->Prop)(C:AU->AU->Le)(I:AU->AU->Le)(Ac:Lg->AU->AU->Li)(Rw:Lg->AU->AU->La)(s:Int)(acc:Li)(nx:La)(s2:Int)(acc2:Li)(nx2:La):jPa g Q C I Ac Rw s acc nx s2 acc2 nx2=(HFs [j_ (inV z256),O_ acc,E_ nx,O_ acc2,E_ nx2,j_ (inV (I (s,g_ acc,c_ nx) (s2,g_ acc2,c_ nx2))),j_ (inV (C (s,g_ acc,c_ nx) (s2,g_ acc2,c_ nx2))),O_ acc,E_ nx,O_ acc2,E_ nx2] (PH (Prod.fst (some (inV z256=inV z256/\okO (k_ s acc nx) (s,g_ acc,c_ nx)/\okO (k_ s2 acc2 nx2) (s2,g_ acc2,c_ nx2)),J6,[AObj.arr (inV (C (s,g_ acc,c_ nx) (s2,g_ acc2,c_ nx2))) [h_ 3 0 (n_ (I (s,g_ acc,c_ nx) (s2,g_ acc2,c_ nx2))),C_,C_] 256 51,k_ s acc nx,k_ s2 acc2 nx2,i_ (I (s,g_ acc,c_ nx) (s2,g_ acc2,c_ nx2))])))/\HFs [j_ (inV (C (s,g_ acc,c_ nx) (s2,g_ acc2,c_ nx2))),O_ acc,E_ nx,O_ acc2,E_ nx2,j_ (inV (I (s,g_ acc,c_ nx) (s2,g_ acc2,c_ nx2))),j_ (roV (Rw (Z' (I (s,g_ acc,c_ nx) (s2,g_ acc2,c_ nx2))) (s,g_ acc,c_ nx) (s2,g_ acc2,c_ nx2))),j_ (blV (Ac (Z' (I (s,g_ acc,c_ nx) (s2,g_ acc2,c_ nx2))) (s,g_ acc,c_ nx) (s2,g_ acc2,c_ nx2))),j_ (inV (C (s,g_ acc,c_ nx) (s2,g_ acc2,c_ nx2))),O_ acc,E_ nx,O_ acc2,E_ nx2,j_ (inV (I (s,g_ acc,c_ nx) (s2,g_ acc2,c_ nx2)))] (PH (Prod.fst (some (inV (C (s,g_ acc,c_ nx) (s2,g_ acc2,c_ nx2))=inV (Q_ (C (s,g_ acc,c_ nx) (s2,g_ acc2,c_ nx2)))/\([]:Lh)=[]/\IsF (inV (I (s,g_ acc,c_ nx) (s2,g_ acc2,c_ nx2))) (n_ (I (s,g_ acc,c_ nx) (s2,g_ acc2,c_ nx2)))/\AObj.cells [J7 (CF.id g)] 43=AObj.cells [J7 (CF.id g)] 43/\okO (k_ s acc nx) (s,g_ acc,c_ nx)/\okO (k_ s2 acc2 nx2) (s2,g_ acc2,c_ nx2)/\s=s/\s2=s2),J6,[AObj.arr (inV (C (s,g_ acc,c_ nx) (s2,g_ acc2,c_ nx2))) [h_ 4 0 (n_ (I (s,g_ acc,c_ nx) (s2,g_ acc2,c_ nx2))),h_ 5 0 (n_ (Ac (Z' (I (s,g_ acc,c_ nx) (s2,g_ acc2,c_ nx2))) (s,g_ acc,c_ nx) (s2,g_ acc2,c_ nx2))),h_ 6 0 (n_ (Rw (Z' (I (s,g_ acc,c_ nx) (s2,g_ acc2,c_ nx2))) (s,g_ acc,c_ nx) (s2,g_ acc2,c_ nx2)))] 256 51,r_ [J7 (CF.id g)] 43,k_ s acc nx,k_ s2 acc2 nx2,i_ (I (s,g_ acc,c_ nx) (s2,g_ acc2,c_ nx2)),X_ (Ac (Z' (I (s,g_ acc,c_ nx) (s2,g_ acc2,c_ nx2))) (s,g_ acc,c_ nx) (s2,g_ acc2,c_ nx2)),L_ (Rw (Z' (I (s,g_ acc,c_ nx) (s2,g_ acc2,c_ nx2))) (s,g_ acc,c_ nx) (s2,g_ acc2,c_ nx2))])))/\Kb (C (s,g_ acc,c_ nx) (s2,g_ acc2,c_ nx2))/\Kb (I (s,g_ acc,c_ nx) (s2,g_ acc2,c_ nx2))/\l_ (blV (Ac (Z' (I (s,g_ acc,c_ nx) (s2,g_ acc2,c_ nx2))) (s,g_ acc,c_ nx) (s2,g_ acc2,c_ nx2)))/\l_ (roV (Rw (Z' (I (s,g_ acc,c_ nx) (s2,g_ acc2,c_ nx2))) (s,g_ acc,c_ nx) (s2,g_ acc2,c_ nx2)))/\Q m_ (V_ (J5 (Sg (L_ (Rw (Z' (I (s,g_ acc,c_ nx) (s2,g_ acc2,c_ nx2))) (s,g_ acc,c_ nx) (s2,g_ acc2,c_ nx2)))) (i_ (I (s,g_ acc,c_ nx) (s2,g_ acc2,c_ nx2)))) (d_ (C (s,g_ acc,c_ nx) (s2,g_ acc2,c_ nx2)) (n_ (I (s,g_ acc,c_ nx) (s2,g_ acc2,c_ nx2))) (n_ (Ac (Z' (I (s,g_ acc,c_ nx) (s2,g_ acc2,c_ nx2))) (s,g_ acc,c_ nx) (s2,g_ acc2,c_ nx2))) (n_ (Rw (Z' (I (s,g_ acc,c_ nx) (s2,g_ acc2,c_ nx2))) (s,g_ acc,c_ nx) (s2,g_ acc2,c_ nx2)))) (Sg (X_ (Ac (Z' (I (s,g_ acc,c_ nx) (s2,g_ acc2,c_ nx2))) (s,g_ acc,c_ nx) (s2,g_ acc2,c_ nx2)))) 4)):=by kernel_rfl
theorem jPa_nf:type_of%(by have h:=@KG;revert h;delta b_ c_ d_ g_ h_ i_ j_ k_ l_ m_ n_ o_ r_ C_ E_ L_ O_ Q_ V_ X_ Z' J5 J6 J7 Kb;exact id):=@KG
def dfB(C F:Le)(ac:Li)(rw:La):List AObj:=[dfO C [groS 1 F.length,groS 2 ac.length,groS 3 rw.length],groI F,groB ac,groR rw]
def hDf(C F:Le)(ac:Li)(rw:La):AH:=⟨(Nd (Nd (Nd Lf (some (groR rw)) Lf) (some (groI F)) Lf) (some (dfO C [groS 1 F.length,groS 2 ac.length,groS 3 rw.length])) (Nd Lf (some (groB ac)) Lf)),4⟩
theorem gn(C F:Le)(ac:Li)(rw:La):aS (dfB C F ac rw)=hDf C F ac rw:=by kernel_rfl
theorem k9{a:AU}(h:OkA a):okO (auCo a) a:=⟨rfl,h⟩
theorem si_gen(Q:Value->AH->Prop)(C I:AU->Le)(g:Lg->AU->Li)(f:Lg->AU->La){a:AU}(h:OkA a)(F:Lg)(k:I a=inF F)(l:∀ c∈F,c<256)(b:F.length<=256)
 (i:Q (.pointer (some ⟨0,0,none⟩)) (aS (dfB (C a) (inF F) (g F a) (f F a)))):jSi Q C I g f a.1 a.2.1 a.2.2:=by
 obtain⟨s,d,j⟩:=a;refine(jSi_nf Q C I g f s d j).mpr ?_;rw[aT,aO,k];have e:deN (glue (glue (inV (inF F)) []) [])=F:=by exact fg F
 rw[e];rw[gn]at i;refine⟨⟨ab _,.dat (aG _),.dat (aC _),ab _,ab _,.dat (aG _),.dat (aC _),rfl,k9 h⟩,⟨ab _,.dat (aG _),.dat (aC _),ab _,av _,az _,ab _,.dat (aG _),.dat (aC _),ab _,?_⟩,ab _,ab _,az _,av _,i⟩;exact⟨by rw[cY],rfl,⟨by rw[fg],by rw[fg];exact l,by rw[fg];exact b,by rw[fg,aw]⟩,k9 h,rfl,rfl⟩
theorem pa_gen(g:CF)(Q:Value->AH->Prop)(C I:AU->AU->Le)(l:Lg->AU->AU->Li)(k:Lg->AU->AU->La){a b:AU}(h:OkA a)(n:OkA b)(F:Lg)(q:I a b=inF F)(r:∀ c∈F,c<256)(i:F.length<=256)
 (m:Q (.pointer (some ⟨0,0,none⟩)) (aS (dfB (C a b) (inF F) (l F a b) (k F a b)))):jPa g Q C I l k a.1 a.2.1 a.2.2 b.1 b.2.1 b.2.2:=by
 obtain⟨s,j,p⟩:=a;obtain⟨o,d,f⟩:=b;refine(jPa_nf g Q C I l k s j p o d f).mpr ?_;rw[aT,aO,aT,aO,q];have e:deN (glue (glue (inV (inF F)) []) [])=F:=by exact fg F
 rw[e];rw[gn]at m;refine⟨⟨ab _,.dat (aG _),.dat (aC _),.dat (aG _),.dat (aC _),ab _,ab _,.dat (aG _),.dat (aC _),.dat (aG _),.dat (aC _),rfl,k9 h,k9 n⟩,⟨ab _,.dat (aG _),.dat (aC _),.dat (aG _),.dat (aC _),ab _,av _,az _,ab _,.dat (aG _),.dat (aC _),.dat (aG _),.dat (aC _),ab _,?_⟩,ab _,ab _,az _,av _,m⟩;exact⟨by rw[cY],rfl,⟨by rw[fg],by rw[fg];exact r,by rw[fg];exact i,by rw[fg,aw]⟩,rfl,k9 h,k9 n,rfl,rfl⟩
def fsS(a:AU):Lg:=clsF (keyS a.2.2) 256
def fsP(a b:AU):Lg:=clsF (keyP a.2.2 b.2.2) 256
def caS(a:AU):Le:=clsC (keyS a.2.2) 256
def caP2(a b:AU):Le:=clsC (keyP a.2.2 b.2.2) 256
def accS(a:AU):Li:=aceS (fsS a) a
def accP(g:CF)(a b:AU):Li:=aceP g (fsP a b) a b
def rowS(a:AU):La:=rweS (fsS a) a
def rowP(a b:AU):La:=rweP (fsP a b) a b
theorem CJ{a:AU}(h:OkA a):WalkF env f25 [auV a] ⟨.leaf,0⟩ (.pointer (some ⟨0,0,none⟩)) (aS (dfB (caS a) (inF (fsS a)) (accS a) (rowS a))):=
 aq XSi_ok (d:=1) (ns:=[]) (zs:=[]) (ws:=[]) (si_gen _ caS (λa=>clsI (keyS a.2.2) 256) aceS rweS h (fsS a) rfl (cA _ _) (dn _ _) ⟨rfl,rfl⟩)
theorem vi(g:CF){a b:AU}(h:OkA a)(c:OkA b):WalkF env f33 [auV a,auV b,clV g] ⟨.leaf,0⟩ (.pointer (some ⟨0,0,none⟩)) (aS (dfB (caP2 a b) (inF (fsP a b)) (accP g a b) (rowP a b))):=
 aq (XPa_ok g) (d:=1) (ns:=[]) (zs:=[]) (ws:=[]) (pa_gen g _ caP2 (λa b=>clsI (keyP a.2.2 b.2.2) 256) (aceP g) rweP h c (fsP a b) rfl (cA _ _) (dn _ _) ⟨rfl,rfl⟩)
def Cx(g:CF)(C Fs:AU->AU->Le)(Ac:AU->AU->Li)(Rw:AU->AU->La):Lh->List AObj->Option (Ll×Value×List AObj)
 | [u,v,.func (.func q) ⟨[]⟩ ⟨[]⟩],[]=>(match auQ u,auQ v with
   |some a,some b=>some (some (q=g.id/\u=auV a/\OkA a/\v=auV b/\OkA b),.pointer (some ⟨0,0,none⟩),dfB (C a b) (Fs a b) (Ac a b) (Rw a b))
   |_,_=>none)
 |_,_=>none
def spPa(g:CF):=Cx g caP2 (λa b=>inF (fsP a b)) (accP g) rowP
theorem pa_tab{g:CF}:∀ args A p v A',frmR noAr (spPa g) args A=some (p,v,A')->PH p->CallAt env 33 args A v A':=aY ak (fn:=f33) rfl λargs d p v c h e=>by unfold spPa Cx at h;split at h;rename_i u w q;split at h;rename_i a b k f;cases h;obtain⟨rfl,rfl,j,rfl,i⟩:q=g.id/\u=auV a/\OkA a/\w=auV b/\OkA b:=e;exact vi g j i;cases h;cases h
def elRv:El:={El.of (λ_ _ els i=>some (.int .u8 (aa els i)))with app:=true,gm:=λ_=>true}
def XRv:SX:=⟨env,[],elRv,λ_=>.autoN [] [] [] [0,2,3]⟩
theorem BF:XRv.Ok:=⟨ak,aA,an,.nil⟩
def hRv1(l:LB):AH:=⟨Nd Lf (some (.gro (u8v l) [] 5)) Lf,1⟩
def frRv(n i:Nat)(j:Int):T Value:=(Nd (Nd (Nd Lf (some (.int .i64 j)) Lf) none Lf) (some (groS 0 n)) (Nd Lf (some (.int .i64 i)) Lf))
def kFinRv(K:KV):KX:=finK XRv.E (f70.results).toList K
def jRv(K:KV)(l:LB):Prop:=bc XRv 1 f70 [groS 0 l.length] (hRv1 l) K
def jRvL(K:KV)(again:KF)(l0 l:LB)(n i:Nat)(j:Int):Prop:=bh XRv 1 (Func.ntmps f70) (hRv1 l0) (au f70) [1,0] (kFinRv K) [] [] [] [0,2,3] again (frRv n i j) (hRv1 l)
end
end Go.T9
