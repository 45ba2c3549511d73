/- A part of the proof. -/
import Derived.Test.YthnclaleojkecaaGreatDoorC
import Derived.KernelRfl
set_option linter.unusedVariables false
set_option linter.unusedSimpArgs false
set_option linter.unusedSectionVars false
namespace Go.AM
noncomputable section
abbrev _root_.Go.IH:=@Go.AM.T.getFn_ok
abbrev _root_.Go.Jg:=@Go.AM.T.setFn_in
abbrev _root_.Go.I5:=@Go.AM.T.setFn_out
variable {A A' A0:AH}{ag:Bool}{s:ByteArray}{E:Env}{fn:Func}{f:FuncId}{slots ws:Lg}{c els tl:Lh}{ts:List TypeId}{p:Ll}{B B2 N d k m n nx o sz:Nat}{ρ:Operand->Lj}{P:Program}{σ:Sig}{t1 t2:T AObj}{F:T Value}{e t ty:TypeId}{ie:TypeInfo}{v v' v2 x:Value}{w:World}
def sigO(σ:Sig)(k N:Nat):Sig:=⟨λB=>if B=k then σ N else σ B,σ.ro,λB=>if B=k then σ.nl N else σ.nl B⟩
theorem eN:(sigO σ k N) k=σ N:=by simp[sigO]
theorem cm(h:B≠k):(sigO σ k N) B=σ B:=by simp[sigO,h]
theorem lQ(h:σ k=none):σ.sub (sigO σ k N):=⟨λB x a=>by by_cases e:B=k;subst e;rw[h]at a;cases a;rw[cm e];exact a,λ_ _ h=>h⟩
theorem Rel.focus(R:Rel P σ A w){o:AObj}(J:A.t.get N=some o)(Y:N<A.next)
 (S:∀ B,t2.get B=if B=A.next then some o else if B=N then none else A.t.get B):Rel P (sigO σ A.next N) ⟨t2,A.next+1⟩ w:=by
 have X:σ A.next=none:=R.fresh _ (GE _)
 have U:=lQ (N:=N) X;have l:∀ {B a},B≠A.next->t2.get B=some a->B≠N/\A.t.get B=some a:=fun {B a} D h=>by rw[S,C' D]at h;by_cases e:B=N;rw[E' e]at h;cases h;rw[C' e]at h;exact⟨e,h⟩
 have r:∀ {a},t2.get A.next=some a->a=o:=λh=>by rw[S,E' rfl]at h;cases h;rfl
 refine⟨?_,?_,?_,?_,R.ro,?_,?_⟩;intro B a h C;by_cases e:B=A.next
 subst e;obtain rfl:=r h;rcases R.obj0 N a J C with⟨b,d,c,j,g⟩|⟨j,g⟩;exact .inl ⟨b,d,c,by rw[eN];exact j,g.mono U⟩;refine .inr ⟨j,?_⟩;show(if A.next=A.next then σ.nl N else σ.nl A.next);rw[E' rfl];exact g;obtain⟨_,j⟩:=l e h;rcases R.obj0 B a j C with⟨b,d,c,g,I⟩|⟨g,I⟩;exact .inl ⟨b,d,c,by rw[cm e];exact g,I.mono U⟩;refine .inr ⟨g,?_⟩;show(if B=A.next then σ.nl N else σ.nl B);rw[C' e];exact I;intro O B2 a L K x2 j g z C H q i;by_cases M:O=A.next
 subst M;have G:B2≠A.next:=λe=>H e.symm
 obtain rfl:=r j;obtain⟨Q,g⟩:=l G g;rw[eN]at q;rw[cm G]at i;exact R.inj N B2 a L K x2 J g z C (λe=>Q e.symm) q i;obtain⟨V,j⟩:=l M j;rw[cm M]at q;by_cases G:B2=A.next
 subst G;obtain rfl:=r g;rw[eN]at i;exact R.inj O N a L K x2 j J z C V q i;obtain⟨Q,g⟩:=l G g;rw[cm G]at i;exact R.inj O B2 a L K x2 j g z C H q i;intro B x u;by_cases e:B=A.next
 subst e;rw[eN]at u;exact R.lt N x u;rw[cm e]at u;exact R.lt B x u;intro B D;have D:A.next+1<=B:=D
 rw[cm (by omega)];exact R.fresh B (by omega);intro B a x h z u;show σ.ro x.1=none;by_cases e:B=A.next
 subst e;obtain rfl:=r h;rw[eN]at u;exact R.sep N a x J z u;obtain⟨_,j⟩:=l e h;rw[cm e]at u;exact R.sep B a x j z u;intro B D;have y:(if B=A.next then σ.nl N else σ.nl B):=D;by_cases e:B=A.next
 rw[E' e]at y;have I:=(R.nl N y).2;subst e;exact⟨It _,by rw[eN];exact I⟩;rw[C' e]at y;have:=R.nl B y;exact⟨Nat.lt_succ_of_lt this.1,by rw[cm e];exact this.2⟩
theorem Ext.focus{o:AObj}(r:A.t.get N=some o)
 (q:∀ B,t2.get B=if B=A.next then some o else if B=N then none else A.t.get B):Ext σ A w (sigO σ A.next N) ⟨t2,A.next+1⟩ w:=by
 have g:∀ {B a},B≠A.next->t2.get B=some a->A.t.get B=some a:=fun {B a} l h=>by rw[q,C' l]at h;by_cases e:B=N;rw[E' e]at h;cases h;rw[C' e]at h;exact h
 have i:∀ {a},t2.get A.next=some a->a=o:=λh=>by rw[q,E' rfl]at h;cases h;rfl
 refine⟨λB l=>cm (by omega),IR _,GE _,λ_ _ _=>rfl,?_,?_,rfl,rfl,rfl,λ_ _ h=>h,λ_ _ h=>.inl h,λB l=>?_⟩;intro B a x h j b;by_cases e:B=A.next
 subst e;obtain rfl:=i h;rw[eN]at b;exact .inr ⟨N,a,x,r,j,b,rfl⟩;rw[cm e]at b;exact .inr ⟨B,a,x,g e h,j,b,rfl⟩;intro B a x h j b;by_cases e:B=A.next
 subst e;obtain rfl:=i h;rw[eN]at b;exact .inr ⟨N,a,x,r,j,b,rfl⟩;rw[cm e]at b;exact .inr ⟨B,a,x,g e h,j,b,rfl⟩;show(if B=A.next then σ.nl N else σ.nl B)↔σ.nl B;rw[C' (by omega)]
def gEls:Option AObj->Lh
 |some (.gro els _ _)=>els
 |_=>[]
def foK (fo:Option (Li×TypeId))(v:Value)(A:AH)(K:Value->AH->Prop):Prop:=match fo with
 |none=>K v A
 | some (p,e)=>(match v with
   | .slice (some ⟨B,0,none⟩) n m=>(match T.getFn p A.t with
     | some g=>(match T.setFn p A.t (λj=>bif Nat.beq j (T.unF p B)then none else g j)with
       | some t1=>(match T.set FU t1 A.next (.gro (gEls (g (T.unF p B))) [] e)with
         | some t2=>bif Nat.beq (T.numF p (T.unF p A.next)) A.next then False else
          (T.numF p (T.unF p B)=B/\B<A.next)/\g (T.unF p B)=some (.gro (gEls (g (T.unF p B))) [] e)/\K (.slice (some ⟨A.next,0,none⟩) n m) ⟨t2,A.next+1⟩
         |none=>False)
       |none=>False)
     |none=>False)
   |_=>K v A)
theorem VR.focus(h:VR σ (.slice (some ⟨B,0,none⟩) n m) v'):VR (sigO σ k B) (.slice (some ⟨k,0,none⟩) n m) v':=by
 have g:∀ {x},σ B=some x->(sigO σ k B) k=some x:=λh=>by rw[eN];exact h
 cases h with
 |slice _ _ _ h r=>exact .slice _ _ _ (g h) r
 |sliceU _ h b=>exact .sliceU _ (g h) b
 |sliceV _ _ _ h b=>exact .sliceV _ _ _ (g h) b
 |sliceE=>exact .sliceE _ _ _
 |gs0 _ _ _ a i=>exact .gs0 _ _ _ a i
 |gs j y z l m h b u q i=>exact .gs j _ _ l _ (g h) b u q i
theorem foK_ok{O:Option (Li×TypeId)}{K:Value->AH->Prop}(h:foK O v A K)(r:VR σ v v')(R:Rel P σ A w):∃ v2 z a,K v2 z/\VR a v2 v'/\Rel P a z w/\Ext σ A w a z w:=by
 unfold foK at h;split at h;exact⟨v,A,σ,h,r,R,Ext.refl _ _ _⟩;rename_i p e;split at h;rename_i B n m;split at h;rename_i g G;split at h;rename_i t1 I;split at h;rename_i t2 M;cases j:Nat.beq (T.numF p (T.unF p A.next)) A.next with
 |true=>rw[j]at h;exact h.elim
 | false=>
  rw[j]at h;obtain⟨⟨y,S⟩,Q,k⟩:=h;have J:¬ T.InF p A.next:=λ⟨i,b⟩=>by rw[b,T.unF_numF]at j;simp[GG]at j
  have H:A.t.get B=some (.gro (gEls (g (T.unF p B))) [] e):=by have:=IH G (T.unF p B);rw[y]at this;rw[this];exact Q
  have D:∀ C,t2.get C=if C=A.next then some (.gro (gEls (g (T.unF p B))) [] e)else if C=B then none else A.t.get C:=λC=>by
   rw[Hl M];by_cases q:C=A.next
   rw[E' q,E' q];rw[C' q,C' q];by_cases b:T.InF p C;obtain⟨i,rfl⟩:=b;rw[Jg I,IH G];by_cases l:i=T.unF p B;have:Nat.beq i (T.unF p B)=true:=by rw[l];simp[GG]
   rw[this,E' (by rw[l];exact y)];rfl;have:Nat.beq i (T.unF p B)=false:=by cases L:Nat.beq i (T.unF p B);rfl;exact absurd (Gt L) l
   rw[this,C' (λu=>l (by rw[<-u,T.unF_numF]))];rfl;rw[I5 I C b,C' (λu=>b ⟨T.unF p B,by rw[u];exact y.symm⟩)]
  exact⟨_,_,_,k,r.focus,Rel.focus R H S D,Ext.focus H D⟩
 exact h.elim;exact h.elim;exact h.elim;exact⟨_,A,σ,h,r,R,Ext.refl _ _ _⟩
abbrev KF:=T Value->AH->Prop
def oT(o lo:Nat)(els:Lh):Lh:=match Nat.beq o 0 with
 |true=>els
 |false=>els.drop lo
theorem sy(els:Lh):oT o (gLo sz o) els=els.drop (gLo sz o):=by
 unfold oT;split;rename_i h;have:=Gt h;subst this;have:gLo sz 0=0:=by unfold gLo;cases Nat.beq sz 1<;>simp
 rw[this];rfl;rfl
inductive NPos where
 |slot (t:Nat)
 |cell (t j:Nat)
 |made (t:Nat)
 |cutS (t:Nat)
 |cutC (t:Nat) (js:Lg) (j:Nat)
 |nilC (t:Nat) (js:Lg) (j:Nat)
 |emp (t:Nat)
 |groC (t:Nat) (js:Lg) (j:Nat)
def resB(A:AH)(js:Lg):Nat->Lk:=
 List.rec (motive:=λ_=>Nat->Lk) (λB=>some B) (λj _ ih B=>match A.t.get B with
  | some (.cells c _)=>(match nth c j with
    |some (.pointer (some ⟨B2,0,none⟩))=>ih B2
    |_=>none)
  |_=>none) js
def y7 (E : Env) (p :NPos)(e:TypeId)(sz:Nat)(F:T Value)(A:AH)(K:KF):Prop:=
 match p with
 | .slot t => (match F.get t with
   | some (.slice none n k)=>bif Nat.beq n 0&&Nat.beq k 0 then(match T.set 64 F t (.slice (some ⟨A.next,0,none⟩) 0 (unk+3+sz)),T.set FU A.t A.next (.gro [] [] e)with
     |some F1,some t1=>K F1 ⟨t1,A.next+1⟩
     |_,_=>False)else False
   | some (.slice (some ⟨B,0,none⟩) n k)=>(match A.t.get B with
     | some (.cells c eb)=>(match Nat.blt k unk,E.ti eb,und E eb with
       | true,some ie,some d=>(match((Nat.beq n k&&Nat.blt 0 n)&&(Nat.blt 0 ie.size&&Nat.ble ie.size 65536))&&((Nat.beq c.length (n*ie.size)&&c.all cellv)&&(bp d||Nat.beq ie.size 1))with
         | true=>(match T.set 64 F t (.slice (some ⟨A.next,0,none⟩) n (unk+3+ie.size)),T.set FU A.t B .dead with
           | some F1,some t1=>(match T.set FU t1 A.next (.gro (eJ (bp d) ie.size n c) [] eb)with
             |some t2=>K F1 ⟨t2,A.next+1⟩
             |none=>False)
           |_,_=>False)
         |false=>K F A)
       |_,_,_=>K F A)
     |_=>K F A)
   |_=>K F A)
 | .made t =>(match F.get t with
   | some (.slice (some ⟨B,0,none⟩) n k)=>(match A.t.get B with
     | some (.cells c eb)=>(match E.ti eb with
       | some ie=>bif Nat.beq ie.size 1 then(match T.set 64 F t (.slice (some ⟨A.next,0,none⟩) n (unk+3+ie.size)),T.set FU A.t B .dead with
        | some F1,some t1=>(match T.set FU t1 A.next (.gro c [] eb)with
          |some t2=>(n=k/\0<n/\n<unk/\c.length=n/\c.all cellv=true)/\K F1 ⟨t2,A.next+1⟩
          |none=>False)
        |_,_=>False)else False
       |none=>False)
     |_=>K F A)
   |_=>K F A)
 | .cell t j=>(match F.get t with
   | some (.pointer (some ⟨B,0,none⟩))=>(match A.t.get B with
     | some (.cells c eb)=>(match nth c j with
       | some (.slice none n k)=>bif Nat.beq n 0&&Nat.beq k 0 then(match T.set FU A.t B (.cells (c.set j (.slice (some ⟨A.next,0,none⟩) 0 (unk+3+sz))) eb)with
         | some t1=>(match T.set FU t1 A.next (.gro [] [] e)with
           |some t2=>K F ⟨t2,A.next+1⟩
           |none=>False)
         |none=>False)else False
       |_=>K F A)
     | some (.arr els rest nn eb)=>(match nth rest (j-nn)with
       | some (.slice none n k)=>bif Nat.beq n 0&&Nat.beq k 0 then(match T.set FU A.t B (.arr els (rest.set (j-nn) (.slice (some ⟨A.next,0,none⟩) 0 (unk+3+sz))) nn eb)with
         | some t1=>(match T.set FU t1 A.next (.gro [] [] e)with
           |some t2=>K F ⟨t2,A.next+1⟩
           |none=>False)
         |none=>False)else False
       |_=>K F A)
     |_=>K F A)
   |_=>K F A)
 | .cutS t =>(match F.get t with
   | some (.slice (some ⟨B,o,none⟩) n m)=>(match isG m,A.t.get B with
     | true,some (.gro els tl eb)=>(match E.ti eb with
       | some ie=>bif Nat.beq (gsz m) ie.size&&Nat.blt 0 ie.size then(match T.set 64 F t (.slice (some ⟨A.next,0,none⟩) n m),T.set FU A.t B .dead with
         | some F1,some t1=>(match T.set FU t1 A.next (.gro ((oT o (gLo ie.size o) (glue els tl)).take n) [] eb)with
           |some t2=>n+gLo ie.size o<=(glue els tl).length/\K F1 ⟨t2,A.next+1⟩
           |none=>False)
         |_,_=>False)else False
       |none=>False)
     |_,_=>K F A)
   |_=>K F A)
 | .cutC t js j => (match F.get t with
   | some (.pointer (some ⟨B0,0,none⟩))=>(match resB A js B0 with
     | some B => (match A.t.get B with
       | some (.cells c eb)=>(match nth c j with
         | some (.slice (some ⟨B2,o,none⟩) n m)=>(match isG m,A.t.get B2 with
           | true, some (.gro els tl e2)=>(match E.ti e2 with
             | some ie=>bif Nat.beq (gsz m) ie.size&&Nat.blt 0 ie.size then(match T.set FU A.t B2 .dead with
               | some t1=>(match T.set FU t1 A.next (.gro ((oT o (gLo ie.size o) (glue els tl)).take n) [] e2)with
                 | some t2=>(match T.set FU t2 B (.cells (c.set j (.slice (some ⟨A.next,0,none⟩) n m)) eb)with
                   |some t3=>n+gLo ie.size o<=(glue els tl).length/\K F ⟨t3,A.next+1⟩
                   |none=>False)
                 |none=>False)
               |none=>False)else False
             |none=>False)
           |_,_=>K F A)
         |_=>K F A)
       |_=>K F A)
     |none=>K F A)
   |_=>K F A)
 | .nilC t js j=>(match F.get t with
   | some (.pointer (some ⟨B0,0,none⟩))=>(match resB A js B0 with
     | some B =>(match A.t.get B with
       | some (.cells c eb)=>(match nth c j with
         | some (.slice none n k)=>bif Nat.beq n 0&&Nat.beq k 0 then(match T.set FU A.t B (.cells (c.set j (.slice (some ⟨A.next,0,none⟩) 0 (unk+3+sz))) eb)with
           | some t1=>(match T.set FU t1 A.next (.gro [] [] e)with
             |some t2=>K F ⟨t2,A.next+1⟩
             |none=>False)
           |none=>False)else False
         |_=>K F A)
       |_=>K F A)
     |none=>K F A)
   |_=>K F A)
 | .emp t =>(match F.get t with
   | some (.slice (some ⟨B,0,none⟩) n k)=>(match A.t.get B with
     | some (.cells c eb)=>(match E.ti eb with
       | some ie=>bif ((Nat.beq n 0&&Nat.beq k 0)&&Nat.beq c.length 0)&&(Nat.blt 0 ie.size&&Nat.ble ie.size 65536)then(match T.set 64 F t (.slice (some ⟨A.next,0,none⟩) 0 (unk+3+ie.size)),T.set FU A.t B .dead with
        | some F1,some t1=>(match T.set FU t1 A.next (.gro [] [] eb)with
          |some t2=>K F1 ⟨t2,A.next+1⟩
          |none=>False)
        |_,_=>False)else False
       |none=>False)
     |_=>K F A)
   |_=>K F A)
 | .groC t js j => (match F.get t with
   | some (.pointer (some ⟨B0,0,none⟩))=>(match resB A js B0 with
     | some B => (match A.t.get B with
       | some (.cells c eb)=>(match nth c j with
         | some (.slice (some ⟨B2,0,none⟩) n k)=>(match A.t.get B2 with
           | some (.cells c2 e2)=>(match E.ti e2,und E e2 with
             | some ie,some d=>bif ((Nat.blt k unk&&Nat.beq n k)&&(Nat.blt 0 ie.size&&Nat.ble ie.size 65536))&&(((Nat.beq c2.length (n*ie.size)&&c2.all cellv)&&(bp d||Nat.beq ie.size 1))&& !Nat.beq B B2)then(match T.set FU A.t B2 .dead with
               | some t1=>(match T.set FU t1 A.next (.gro (eJ (bp d) ie.size n c2) [] e2)with
                 | some t2=>(match T.set FU t2 B (.cells (c.set j (.slice (some ⟨A.next,0,none⟩) n (unk+3+ie.size))) eb)with
                   |some t3=>K F ⟨t3,A.next+1⟩
                   |none=>False)
                 |none=>False)
               |none=>False)else False
             |_,_=>False)
           |_=>K F A)
         |_=>K F A)
       |_=>K F A)
     |none=>K F A)
   |_=>K F A)
theorem OR.cut{b:Sig}{ob:Option Obj}{c lo:Nat}(h:OR P σ ob d c (.gro els tl e))(r:σ.sub b)(a:P.cellsOf e=sz)(u:n<=k)(q:lo+k<=c):OR P b ob (d+lo*sz) k (.gro (((els++tl).drop lo).take n) [] e):=by obtain⟨K,l0,z,H,G,D,l,C,L⟩:=h;rw[a]at l C;have y:(lo+k)*sz<=c*sz:=Hn _ q;rw[HY]at y;refine⟨K,l0,z,H,G,λi v g=>?_,λx j=>?_,?_,?_⟩;rw[GA,<-cf n (λx j=>l x (H7 j)),<-bS lo l,GW]at g;split at g;rw[GV]at g;obtain⟨v1,J,I⟩:=D _ v g;exact⟨v1,by rw[Ho];exact J,I.mono r⟩;cases g;rw[GA]at j;rw[a];exact l x (H7 (H6 j));rw[a];omega;rw[GA,Hd];omega
theorem oX(J:E.Ok)(R:Rel E.P σ A w)(K:VR σ (.slice (some ⟨B2,o,none⟩) n m) v')(C:isG m=true)(j:A.t.get B2=some (.gro els tl e))(z:E.ti e=some ie)(r:gsz m=ie.size)(l:0<ie.size)(M:n+gLo ie.size o<=(glue els tl).length)
 (h:T.set FU A.t B2 .dead=some t1) (a:T.set FU t1 A.next (.gro ((oT o (gLo ie.size o) (glue els tl)).take n) [] e)=some t2):∃ g,σ.sub g/\Rel E.P g ⟨t2,A.next+1⟩ w/\Ext σ A w g ⟨t2,A.next+1⟩ w/\VR g (.slice (some ⟨A.next,0,none⟩) n m) v':=by
 rw[sy]at a;rcases cb K C with⟨rfl,Q,rfl⟩|⟨b2,y,O,u,k,b,rfl,q,G,rfl⟩;rw[List.take_zero]at a;obtain⟨I,H⟩:=Rel.nilGro (R.dead h) a;exact⟨nilU σ A.next,dU _ _,I,(Ext.dead h).trans H,VR.gs0Mk _ _ m Q C⟩;rw[r,k8 l,b7]at M a;have D:E.P.cellsOf e=ie.size:=by simp[Program.cellsOf,J.ti _ _ z]
 have i:σ.sub (upd σ A.next (b2,y+u*ie.size,k)):=cj (R.fresh _ (GE _));refine⟨_,i,R.move (w':=w) (d2:=y+u*ie.size) (c2:=k) j rfl b h a rfl rfl (λ_ _=>rfl) (OR.cut (R.at j rfl b) i D q G),Ext.move R j rfl b h a rfl (λ_ _=>rfl) rfl rfl rfl,?_⟩;rw[r];have L:=VR.gsMk (σ:=upd σ A.next (b2,y+u*ie.size,k)) (lo:=0) (n:=n) (k:=k) (m:=m) bG C q (JM (HO _));simpa using L
theorem Turns.cutSlot(G:E.Ok){H:Nat}{F1:T Value}{t:Nat}(K:F.get t=some (.slice (some ⟨B2,o,none⟩) n m))(L:isG m=true)(y:A.t.get B2=some (.gro els tl e))(q:E.ti e=some ie)(r:gsz m=ie.size)(g:0<ie.size)(J:n+gLo ie.size o<=(glue els tl).length)
 (M:T.set 64 F t (.slice (some ⟨A.next,0,none⟩) n m)=some F1) (l:T.set FU A.t B2 .dead=some t1) (j:T.set FU t1 A.next (.gro ((oT o (gLo ie.size o) (glue els tl)).take n) [] e)=some t2):Turns E A0 H F A F1 ⟨t2,A.next+1⟩:=by intro D U a w ⟨σ,h,R,u,X⟩;obtain⟨i,C,S,Q,I⟩:=oX G R (h.val t _ K) L y q r g J l j;refine⟨i,⟨h.size,λz v b=>?_,h.defers⟩,S,u.sub C,X.trans Q⟩;have b:F1.get z=some v:=b;rw[Hl M]at b;split at b;rename_i O;subst O;cases b;exact I;exact(h.val z v b).mono C
theorem Turns.cutCell(ok:E.Ok){m0:Nat}{j:Nat}{G:TypeId}{t3:T AObj}(U:A.t.get B=some (.cells c G))(hj:c[j]? =some (.slice (some ⟨B2,o,none⟩) n m))(hg:isG m=true)(r:A.t.get B2=some (.gro els tl e))(M:E.ti e=some ie)(Q:gsz m=ie.size)(C:0<ie.size)(hn:n+gLo ie.size o<=(glue els tl).length)
 (z:T.set FU A.t B2 .dead=some t1) (y:T.set FU t1 A.next (.gro ((oT o (gLo ie.size o) (glue els tl)).take n) [] e)=some t2) (I:T.set FU t2 B (.cells (c.set j (.slice (some ⟨A.next,0,none⟩) n m)) G)=some t3):Turns E A0 m0 F A F ⟨t3,A.next+1⟩:=by
 intro a0 w0 a w ⟨σ,hF,R,S,X⟩;obtain⟨b,d,cp,q,c',a1,a2,q1,q2,q3,q4⟩:=R.obj B _ U rfl;obtain⟨v',k1,k2⟩:=q3 j _ hj;have L:B≠B2:=by intro Y;subst Y;rw[U]at r;cases r
 have K:B≠A.next:=by intro Y;rw[Y,R.fresh _ (GE _)]at q;cases q
 have D:t2.get B=some (.cells c G):=by rw[Hl y,C' K,Hl z,C' L];exact U
 obtain⟨u,J,R1,X1,hv⟩:=oX ok R k2 hg r M Q C hn z y;obtain⟨p1,p2⟩:=Rel.retellAt (o2:=.cells (c.set j (.slice (some ⟨A.next,0,none⟩) n m)) G) R1 D I rfl rfl rfl (λb1 d1 Z l h=>by
  have hb:=J.f B _ q;have l:u.f B=some (b1,d1,Z):=l;rw[hb]at l;cases l;obtain⟨c2,H,O,V,h2,h3,h4⟩:=h;refine⟨c2,H,O,V,h2,λi v g=>?_,h4⟩;rw[Hm]at g;split at g;rename_i e1;subst e1;split at g;cases g;have ec:c2=c':=by rw[q1]at V;cases V;rfl
  exact⟨v',by rw[ec];exact k1,hv⟩;cases g;exact h3 i v g)
 exact⟨u,hF.mono J,p1,S.sub J,X.trans (X1.trans p2)⟩
theorem oF(Z:E.Ok)(R:Rel E.P σ A w)(u:VR σ (.slice (some ⟨B,0,none⟩) n n) v')(hk:n<unk)(M:A.t.get B=some (.cells c e))(J:E.ti e=some ie)(L:ag=true∨ie.size=1)(a0:0<ie.size)(a1:ie.size<=65536)(D:c.length=n*ie.size)(K:c.all cellv=true)
 (z:T.set FU A.t B .dead=some t1) (y:T.set FU t1 A.next (.gro (eJ ag ie.size n c) [] e)=some t2):∃ g,σ.sub g/\Rel E.P g ⟨t2,A.next+1⟩ w/\Ext σ A w g ⟨t2,A.next+1⟩ w/\VR g (.slice (some ⟨A.next,0,none⟩) n (unk+3+ie.size)) v':=by
 obtain⟨b,d,cp,r,H,O,hi,g1,g2,U,g4,g5⟩:=R.obj B _ M rfl;obtain⟨k1,k2,k3⟩:=gL (agg:=ag) L n c D K;have G:E.P.cellsOf e=ie.size:=by simp[Program.cellsOf,Z.ti _ _ J]
 have l:=cj (σ:=σ) (id:=A.next) (x:=(b,d,n)) (R.fresh _ (GE _));have j:d+n*ie.size<=H.size:=by
  by_cases h0:n*ie.size=0;rw[h0];omega;have hl:n*ie.size-1<c.length:=by omega
  obtain⟨v',V,_⟩:=U (n*ie.size-1) c[n*ie.size-1] (Gq hl);have:d+(n*ie.size-1)<H.size:=by rcases Hc (d+(n*ie.size-1)) H.size with h|h;exact h;rw[Ha h]at V;cases V
  omega
 refine⟨upd σ A.next (b,d,n),l,R.move (w':=w) (d2:=d) (c2:=n) M rfl r z y rfl rfl (λ_ _=>rfl) ⟨H,O,hi,g1,g2,λi v Q=>?_,?_,?_,?_⟩,Ext.move R M rfl r z y rfl (λ_ _=>rfl) rfl rfl rfl,?_⟩;rw[GA,k1]at Q;obtain⟨v',Y,X⟩:=U i v Q;exact⟨v',Y,X.mono l⟩;rw[GA,G];exact k2;rw[G];exact j;rw[GA,k3];exact GE _;generalize I:n=n1 at u;generalize a2:n1=n2 at u;cases u with
 |slice i q k C a3=>rw[r]at C;cases C;subst I;exact .gs 0 0 _ _ _ bG (by omega) (by omega) (by omega) (by omega)
 |sliceU q C S=>omega
 |sliceV i q k C S=>omega
 |gs0 B o m a hm=>omega
 |gs O o q k m C S hc ho hm=>omega
theorem Turns.groSlot(I:E.Ok){F1:T Value}{t:Nat}(J:F.get t=some (.slice (some ⟨B,0,none⟩) n n))(K:n<unk)(O:A.t.get B=some (.cells c e))(y:E.ti e=some ie)(C:ag=true∨ie.size=1)(r:0<ie.size)(u:ie.size<=65536)(g:c.length=n*ie.size)(z:c.all cellv=true)
 (M:T.set 64 F t (.slice (some ⟨A.next,0,none⟩) n (unk+3+ie.size))=some F1) (q:T.set FU A.t B .dead=some t1) (l:T.set FU t1 A.next (.gro (eJ ag ie.size n c) [] e)=some t2):Turns E A0 m F A F1 ⟨t2,A.next+1⟩:=by intro H V a w ⟨σ,h,R,L,X⟩;obtain⟨i,G,U,S,j⟩:=oF I R (h.val t _ J) K O y C r u g z q l;refine⟨i,⟨h.size,λD v b=>?_,h.defers⟩,U,L.sub G,X.trans S⟩;have b:F1.get D=some v:=b;rw[Hl M]at b;split at b;rename_i Q;subst Q;cases b;exact j;exact(h.val D v b).mono G
theorem Turns.groCell(ok:E.Ok){j:Nat}{c2:Lh}{D:TypeId}{t3:T AObj}(hB:A.t.get B=some (.cells c D))(hj:c[j]? =some (.slice (some ⟨B2,0,none⟩) n n))(M:B≠B2)(hk:n<unk)(Y:A.t.get B2=some (.cells c2 e))(O:E.ti e=some ie)(V:ag=true∨ie.size=1)(I:0<ie.size)(J:ie.size<=65536)(z:c2.length=n*ie.size)(U:c2.all cellv=true)
 (y:T.set FU A.t B2 .dead=some t1) (u:T.set FU t1 A.next (.gro (eJ ag ie.size n c2) [] e)=some t2) (H:T.set FU t2 B (.cells (c.set j (.slice (some ⟨A.next,0,none⟩) n (unk+3+ie.size))) D)=some t3):Turns E A0 m F A F ⟨t3,A.next+1⟩:=by
 intro a1 w0 a w ⟨σ,hF,R,S,X⟩;obtain⟨b,d,cp,q,c',a2,a3,q1,q2,q3,q4⟩:=R.obj B _ hB rfl;obtain⟨v',k1,k2⟩:=q3 j _ hj;have L:B≠A.next:=by intro e';rw[e',R.fresh _ (GE _)]at q;cases q
 have C:t2.get B=some (.cells c D):=by rw[Hl u,C' L,Hl y,C' M];exact hB
 obtain⟨r,K,R1,X1,hv⟩:=oF ok R k2 hk Y O V I J z U y u;obtain⟨p1,p2⟩:=Rel.retellAt (o2:=.cells (c.set j (.slice (some ⟨A.next,0,none⟩) n (unk+3+ie.size))) D) R1 C H rfl rfl rfl (λb1 d1 a0 l h=>by
  have hb:=K.f B _ q;have l:r.f B=some (b1,d1,a0):=l;rw[hb]at l;cases l;obtain⟨c2,G,Q,Z,h2,h3,h4⟩:=h;refine⟨c2,G,Q,Z,h2,λi v g=>?_,h4⟩;rw[Hm]at g;split at g;rename_i e1;subst e1;split at g;cases g;have ec:c2=c':=by rw[q1]at Z;cases Z;rfl
  exact⟨v',by rw[ec];exact k1,hv⟩;cases g;exact h3 i v g)
 exact⟨r,hF.mono K,p1,S.sub K,X.trans (X1.trans p2)⟩
theorem oY:∀ (n:Nat) (c:Lh),c.length=n->eJ false 1 n c=c
 |0,c,h=>by rw[GY h];rfl
 |n+1,[],h=>by simp at h
 |n+1,v::c,h=>by have:eJ false 1 (n+1) (v::c)=v::eJ false 1 n c:=rfl;rw[this,oY n c (by simpa using h)]
theorem y6(J:E.Ok){p:NPos}{K:KF}(h:y7 E p e sz F A K):∃ F1 A1,K F1 A1/\Turns E A0 n F A F1 A1:=by
 unfold y7 at h;split at h;rename_i t;split at h;rename_i r D y;cases a:(Nat.beq r 0&&Nat.beq D 0);rw[a]at h;exact h.elim;rw[a]at h;simp only[f',GG]at a;obtain⟨rfl,rfl⟩:=a;simp only[D']at h;split at h;rename_i F1 t1 hF ht;exact⟨F1,_,h,Turns.nilSlot (Ij _ _) y hF ht⟩;exact h.elim;rename_i B r D y;split at h;rename_i c H q;split at h;rename_i ie d hk i hd;split at h;rename_i hc;simp only[f',HE,GG,HN,GI]at hc;obtain⟨⟨⟨rfl,c1⟩,L,X⟩,⟨V,c5⟩,c6⟩:=hc;rw[HN]at hk;split at h;rename_i F1 t1 l g;split at h;rename_i t2 b;exact⟨F1,_,h,Turns.groSlot J y hk q i c6 L X V c5 l g b⟩;exact h.elim;exact h.elim;exact⟨F,A,h,Turns.refl⟩;exact⟨F,A,h,Turns.refl⟩;exact⟨F,A,h,Turns.refl⟩;exact⟨F,A,h,Turns.refl⟩;rename_i t;split at h;rename_i B C r y;split at h;rename_i c H q;split at h;rename_i ie i;cases a:Nat.beq ie.size 1;rw[a]at h;exact h.elim;rw[a]at h;simp only[D']at h;rw[GG]at a;split at h;rename_i F1 t1 l g;split at h;rename_i t2 b;obtain⟨⟨rfl,c1,L,X,V⟩,h⟩:=h;rw[<-oY C c X,<-a]at b;exact⟨F1,_,h,Turns.groSlot J y L q i (.inr a) (by omega) (by omega) (by rw[a];omega) V l g b⟩;exact h.elim;exact h.elim;exact h.elim;exact⟨F,A,h,Turns.refl⟩;exact⟨F,A,h,Turns.refl⟩;rename_i t j;split at h;rename_i B y;split at h;rename_i c H q;split at h;rename_i r D u;rw[aS]at u;cases a:(Nat.beq r 0&&Nat.beq D 0);rw[a]at h;exact h.elim;rw[a]at h;simp only[f',GG]at a;obtain⟨rfl,rfl⟩:=a;simp only[D']at h;split at h;rename_i t1 g;split at h;rename_i t2 b;exact⟨F,_,h,Turns.nilCell (Ij _ _) q u g b⟩;exact h.elim;exact h.elim;exact⟨F,A,h,Turns.refl⟩;rename_i els Y nn H q;split at h;rename_i r D u;rw[aS]at u;cases a:(Nat.beq r 0&&Nat.beq D 0);rw[a]at h;exact h.elim;rw[a]at h;simp only[f',GG]at a;obtain⟨rfl,rfl⟩:=a;simp only[D']at h;split at h;rename_i t1 g;split at h;rename_i t2 b;exact⟨F,_,h,Turns.nilArr (Ij _ _) q u g b⟩;exact h.elim;exact h.elim;exact⟨F,A,h,Turns.refl⟩;exact⟨F,A,h,Turns.refl⟩;exact⟨F,A,h,Turns.refl⟩;rename_i t;split at h;rename_i B o C M y;split at h;rename_i els tl H R z;split at h;rename_i ie i;cases a:(Nat.beq (gsz M) ie.size&&Nat.blt 0 ie.size);rw[a]at h;exact h.elim;rw[a]at h;simp only[f',GG,HN]at a;simp only[D']at h;split at h;rename_i F1 t1 l g;split at h;rename_i t2 b;exact⟨F1,_,h.2,Turns.cutSlot J y R z i a.1 a.2 h.1 l g b⟩;exact h.elim;exact h.elim;exact h.elim;exact⟨F,A,h,Turns.refl⟩;exact⟨F,A,h,Turns.refl⟩;rename_i t Z j;split at h;rename_i B0 y;split at h;rename_i B G;split at h;rename_i c H q;split at h;rename_i B2 o C M u;rw[aS]at u;split at h;rename_i els tl e2 R z;split at h;rename_i ie i;cases a:(Nat.beq (gsz M) ie.size&&Nat.blt 0 ie.size);rw[a]at h;exact h.elim;rw[a]at h;simp only[f',GG,HN]at a;simp only[D']at h;split at h;rename_i t1 g;split at h;rename_i t2 b;split at h;rename_i t3 I;exact⟨F,_,h.2,Turns.cutCell J q u R z i a.1 a.2 h.1 g b I⟩;exact h.elim;exact h.elim;exact h.elim;exact h.elim;exact⟨F,A,h,Turns.refl⟩;exact⟨F,A,h,Turns.refl⟩;exact⟨F,A,h,Turns.refl⟩;exact⟨F,A,h,Turns.refl⟩;exact⟨F,A,h,Turns.refl⟩;rename_i t Z j;split at h;rename_i B0 y;split at h;rename_i B G;split at h;rename_i c H q;split at h;rename_i r D u;rw[aS]at u;cases a:(Nat.beq r 0&&Nat.beq D 0);rw[a]at h;exact h.elim;rw[a]at h;simp only[f',GG]at a;obtain⟨rfl,rfl⟩:=a;simp only[D']at h;split at h;rename_i t1 g;split at h;rename_i t2 b;exact⟨F,_,h,Turns.nilCell (Ij _ _) q u g b⟩;exact h.elim;exact h.elim;exact⟨F,A,h,Turns.refl⟩;exact⟨F,A,h,Turns.refl⟩;exact⟨F,A,h,Turns.refl⟩;exact⟨F,A,h,Turns.refl⟩;rename_i t;split at h;rename_i B C r y;split at h;rename_i c H q;split at h;rename_i ie i;cases a:((Nat.beq C 0&&Nat.beq r 0)&&Nat.beq c.length 0)&&(Nat.blt 0 ie.size&&Nat.ble ie.size 65536);rw[a]at h;exact h.elim;rw[a]at h;simp only[D']at h;simp only[f',GG,HN,GI]at a;obtain⟨⟨⟨rfl,rfl⟩,U⟩,Q,O⟩:=a;split at h;rename_i F1 t1 l g;split at h;rename_i t2 b;have S:c=[]:=GY U;exact⟨F1,_,h,Turns.groSlot (ag:=true) J y (by unfold unk;omega) q i (.inl rfl) Q O (by omega) (by rw[S];rfl) l g b⟩;exact h.elim;exact h.elim;exact h.elim;exact⟨F,A,h,Turns.refl⟩;exact⟨F,A,h,Turns.refl⟩;rename_i t Z j;split at h;rename_i B0 y;split at h;rename_i B G;split at h;rename_i c H q;split at h;rename_i B2 C r u;rw[aS]at u;split at h;rename_i L e2 z;split at h;rename_i ie d i hd;cases a:((Nat.blt r unk&&Nat.beq C r)&&(Nat.blt 0 ie.size&&Nat.ble ie.size 65536))&&(((Nat.beq L.length (C*ie.size)&&L.all cellv)&&(bp d||Nat.beq ie.size 1))&& !Nat.beq B B2)with
 |false=>rw[a]at h;exact h.elim
 |true=>rw[a]at h;simp only[D']at h;simp only[f',HE,Io,GG,HN,GI]at a;obtain⟨⟨⟨q1,rfl⟩,q2,q3⟩,⟨⟨q4,q5⟩,q6⟩,q7⟩:=a;split at h;rename_i t1 g;split at h;rename_i t2 b;split at h;rename_i t3 I;exact⟨F,_,h,Turns.groCell J q u (aX q7) q1 z i q6 q2 q3 q4 q5 g b I⟩;exact h.elim;exact h.elim;exact h.elim
 exact h.elim;exact⟨F,A,h,Turns.refl⟩;exact⟨F,A,h,Turns.refl⟩;exact⟨F,A,h,Turns.refl⟩;exact⟨F,A,h,Turns.refl⟩;exact⟨F,A,h,Turns.refl⟩
def nilK(E:Env)(l:List (NPos×TypeId×Nat)):T Value->AH->KF->Prop:=
 List.rec (motive:=λ_=>T Value->AH->KF->Prop) (λF A K=>K F A) (λx _ ih F A K=>y7 E x.1 x.2.1 x.2.2 F A (λF1 A1=>ih F1 A1 K)) l
theorem mw{E:Env}(a:E.Ok){A0:AH}{n:Nat}:∀ {l:List (NPos×TypeId×Nat)}{F:T Value}{A:AH}{K:KF},nilK E l F A K->∃ F1 A1,K F1 A1/\Turns E A0 n F A F1 A1
 | [],F,A,K,h=>⟨F,A,h,Turns.refl⟩
 |x::l,F,A,K,h=>by have h:y7 E x.1 x.2.1 x.2.2 F A (λF1 A1=>nilK E l F1 A1 K):=h;obtain⟨F1,A1,h,t1⟩:=y6 a (E:=E) (A0:=A0) (n:=n) h;obtain⟨b,g,h,t2⟩:=mw a (E:=E) (A0:=A0) (n:=n) h;exact⟨b,g,h,t1.trans t2⟩
abbrev _root_.Go.Hp:=@List.map_map
abbrev _root_.Go.HZ:=@List.map_id
abbrev _root_.Go.GT:=@List.map_congr_left
abbrev _root_.Go.Hf:=@Option.some.inj
abbrev _root_.Go.If:=@List.mem_replicate
abbrev _root_.Go.GQ:=@List.getElem?_map
abbrev _root_.Go.Hi:=@List.length_replicate
def Sp(b:Bool)(p q:Prop):Prop:=Bool.rec (motive:=λ_=>Prop) q p b
theorem Sp.intro{b:Bool}{p q:Prop}(h:b=true->p)(k:b=false->q):Sp b p q:=by
 cases b with
 |true=>exact h rfl
 |false=>exact k rfl
theorem Sp.cases{b:Bool}{p q:Prop}(h:Sp b p q):(b=true/\p)∨(b=false/\q):=by
 cases b with
 |true=>exact .inl ⟨rfl,h⟩
 |false=>exact .inr ⟨rfl,h⟩
inductive Stop {α :Type}(x: α):Prop
theorem Stop.elim{a :Type}{x: a}{p:Prop}(h:Stop x):p:=nomatch h
inductive Leaf (p:Prop):Prop
 |mk (h:p):Leaf p
theorem Leaf.get{p:Prop}(h:Leaf p):p:=by cases h with|mk h=>exact h
def pc(p:Ll)(q:Prop):Prop:=match p with|none=>q|some p=>p/\q
def PH(p:Ll):Prop:=match p with|none=>True|some p=>p
theorem dh{q:Prop}(h:pc p q):PH p/\q:=by
 cases p with
 |none=>exact⟨trivial,h⟩
 |some p=>exact h
structure El where
 at':Nat->Nat->Lh->Int->Lj
 app:Bool
 gm:TypeId->Bool
 ml:TypeId->Lc->Value->Option (Value×Bool)
 mu:TypeId->Lc->Nat->Value->Value->Option (Lc×Nat)
 md:TypeId->Lc->Value->Option Lc
 fo:Lk->Option (Li×TypeId)
 hk:Lk->List (NPos×TypeId×Nat)
def El.of(f:Nat->Nat->Lh->Int->Lj):El:=⟨f,false,λ_=>false,λ_ _ _=>none,λ_ _ _ _ _=>none,λ_ _ _=>none,λ_=>none,λ_=>[]⟩
abbrev KV:=Value->AH->Prop
abbrev RunF:=Lh->AH->Option (Ll×Value×AH)
abbrev Tab:=List (FuncId×RunF)
abbrev Inl:=Func->Lh->AH->KV->Prop
def pn:Tab->FuncId->Option RunF
 | [],_=>none
 |(g,x)::l,f=>bif Nat.beq f g then some x else pn l f
def ud(l:Tab):bU:=λf args A=>match pn l f with
 |some x=>(match x args A with|some (p,v,A')=>(open Classical in if PH p then some (v,A')else none)|none=>none)
 |none=>none
def CallAt(E:Env)(f:FuncId)(args:Lh)(A:AH)(v:Value)(A':AH):Prop:=∀ σ w args',Rel E.P σ A w->Glob E σ->VRs σ args args'->
 Calls E.P f ⟨args'⟩ w (λe w'=>∃ v' σ',e=.returned v'/\VR σ' v v'/\Rel E.P σ' A' w'/\Ext σ A w σ' A' w')
inductive TabOk (E:Env):Tab->Prop
 |nil:TabOk E []
 |cons {f:FuncId}{x:RunF}{l:Tab}(h:∀ args A p v A',x args A=some (p,v,A')->PH p->CallAt E f args A v A') (t:TabOk E l):TabOk E ((f,x)::l)
theorem TabOk.get:∀ {l:Tab},TabOk E l->∀ {f:FuncId}{x:RunF},pn l f=some x->∀ args A p v A',x args A=some (p,v,A')->PH p->CallAt E f args A v A'
 |_,.nil,f,x,h=>by simp[pn]at h
 | _,.cons (f:=g) h t,f,x,hx=>by
  simp only[pn]at hx;cases e:Nat.beq f g with
  |true=>rw[e]at hx;simp only[D',osI]at hx;subst hx;obtain rfl:=Gt e;exact h
  |false=>rw[e]at hx;exact t.get hx
theorem z7{l:Tab}(h:TabOk E l):fp E (ud l):=by intro f g A v A' a σ w b R r u;unfold ud at a;split at a;rename_i x i;split at a;rename_i p y A0 j;split at a;rename_i q;cases a;exact h.get i g A p _ _ j q σ w b R r u;cases a;cases a;cases a
def bD(pre:Lh->Ll)(val:Lh->Lj):RunF:=λargs A=>match val args with|some v=>some (pre args,v,A)|none=>none
theorem ue{args:Lh}(h:Con E f (dy (one args v)))(A:AH):CallAt E f args A v A:=by intro σ w a R b g;exact h args A v A (by simp[dy,mi]) σ w a R b g
theorem qw(g:E.Ok)(a:GlOk E)(b:E.fn f=some fn){args:Lh}(i:∀ x∈args,HF x)(h:Walk E fn args v)(A:AH):CallAt E f args A v A:=
 ue (qq g a b i h) A
theorem i4{b:Lh->Ll}{a:Lh->Lj}(h:∀ args v,a args=some v->PH (b args)->∀ A,CallAt E f args A v A):∀ args A p v A',bD b a args A=some (p,v,A')->PH p->CallAt E f args A v A':=by intro args A p v A' g j;unfold bD at g;split at g;rename_i u i;simp only[osI,Gx]at g;obtain⟨rfl,rfl,rfl⟩:=g;exact h args u i j A;cases g
def aa(els:Lh)(i:Int):Int:=match nth els i.toNat with|some (.int _ n)=>n|_=>0
def aG(els:Lh)(i:Int):Bool:=match nth els i.toNat with|some (.bool b)=>b|_=>false
def yO:Operand->Nat
 | .tmp t=>t
 |_=>0
def qd(E:Env)(A:AH)(ρ:Operand->Lj)(ty:TypeId)(op:Op):Option (Ll×Value):=match quiet E A ρ ty op with|some v=>some (none,v)|none=>none
def sxIdx(E:Env)(A:AH)(ρ:Operand->Lj)(ty:TypeId)(t:TypeId)(x i:Operand):Option (Ll×Value):=
 match ρ x with
 | some (.func (.yield sz) ⟨els⟩ ⟨[]⟩)=>(match ρ i,und E t with
   | some (.int _ n),some (.slice e)=>(match E.ti e with
     |some ie=>bif Nat.beq ie.size sz&&Nat.blt 0 sz then some (some (0<=n/\n<els.length),.func (.yield sz) ⟨els⟩ ⟨[.int .i64 n.toNat,.int .i64 (0:Nat)]⟩)else none
     |none=>none)
   |_,_=>none)
 | some (.slice (some ⟨B,o,none⟩) n m)=>(match isG m with
   | true=>(match ρ i,und E t with
     | some (.int _ k),some (.slice e)=>(match E.ti e with
       |some ie=>bif Nat.beq ie.size (gsz m)&&Nat.blt 0 (gsz m)then some (some (0<=k/\k<n),gPtr (gsz m) B (gIdx (gsz m) o k.toNat) 0)else none
       |none=>none)
     |_,_=>none)
   |false=>qd E A ρ ty (.indexAddr t x i))
 | some (.pointer (some ⟨B,0,none⟩))=>(match ρ i,und E t with
   | some (.int _ k),some (.array len el)=>(match E.ti el with
     |some ie=>bif Nat.beq ie.size 1&&Nat.ble 64 len then some (some (0<=k/\k<len),gPtr 1 B k.toNat 0)else qd E A ρ ty (.indexAddr t x i)
     |none=>none)
   |_,_=>qd E A ρ ty (.indexAddr t x i))
 |_=>qd E A ρ ty (.indexAddr t x i)
def As(E:Env)(el:El)(A:AH)(ρ:Operand->Lj)(ty:TypeId)(t:TypeId)(a:Operand):Option (Ll×Value):=
 match ρ a with
 | some (.func (.yield sz) ⟨els⟩ ⟨[.int .i64 i,.int .i64 j]⟩)=>(match el.at' sz (yO a) els i with
   |some u=>(match ldat E t [u] 0 j.toNat with|some v=>some (some (nth els i.toNat=some u),v)|none=>none)
   |none=>qd E A ρ ty (.load t a))
 | some (.func (.yield sz) ⟨[.pointer (some ⟨B,0,none⟩)]⟩ ⟨[.int .i64 i,.int .i64 j,.bool true]⟩)=>(match A.t.get B with
   | some (.gro els tl e)=>(match E.ti e,el.at' sz (yO a) (glue els tl) i with
     |some ie,some u=>bif Nat.beq ie.size sz then(match ldat E t [u] 0 j.toNat with|some v=>some (some (nth (glue els tl) i.toNat=some u),v)|none=>none)else none
     |_,_=>none)
   | some (.arr els rest n e)=>(match und E t,el.at' 1 (yO a) els i with
     |some d,some u=>bif bp d|| !(Nat.beq sz 1&&Nat.beq j.toNat 0)then none else some (some (nth els i.toNat=some u),u)
     |_,_=>none)
   |_=>qd E A ρ ty (.load t a))
 |_=>qd E A ρ ty (.load t a)
def NZ(b:Int):Prop:=b≠0
def ye(E:Env)(A:AH)(ρ:Operand->Lj)(ty:TypeId)(op:BinOp)(t:TypeId)(x y:Operand)(t2:TypeId)(f:IntKind->Int->Int->Int):Option (Ll×Value):=
 match ρ x with
 | some (.int k a)=>(match ρ y with
   |some (.int k' b)=>bif dn k k' then some (some (NZ b),.int k (f k a b))else none
   |_=>none)
 |_=>qd E A ρ ty (.binOp op t x y t2)
def subB(s:ByteArray)(a b:Int):ByteArray:=aw ((s.data.toList.drop a.toNat).take (b.toNat-a.toNat))
def Cb(E:Env)(ρ:Operand->Lj)(t:TypeId)(s:ByteArray)(lo hi mx:Option Operand):Option (Ll×Value):=
 match mx,und E t with
 | none,some .string=>(match lo,hi with
   |none,some h=>(match ρ h with|some (.int _ b)=>some (some (0<=b/\b<=s.size),.string (subB s 0 b))|_=>none)
   |some l,none=>(match ρ l with|some (.int _ a)=>some (some (0<=a/\a<=s.size),.string (subB s a s.size))|_=>none)
   |some l,some h=>(match ρ l,ρ h with|some (.int _ a),some (.int _ b)=>some (some (0<=a/\a<=b/\b<=s.size),.string (subB s a b))|_,_=>none)
   |none,none=>none)
 |_,_=>none
def sxSli (E:Env)(A:AH)(ρ:Operand->Lj)(ty:TypeId)(t:TypeId)(x:Operand)(lo hi mx:Option Operand):Option (Ll×Value):=
 match ρ x with
 | some (.func (.yield sz) ⟨els⟩ ⟨[]⟩)=>(match mx,lo,hi with
   | none,none,some h=>(match ρ h,und E t with
     | some (.int _ b),some (.slice e)=>(match E.ti e with
       |some ie=>bif Nat.beq ie.size sz then some (some (0<=b/\b<=els.length),.func (.yield sz) ⟨els.take b.toNat⟩ ⟨[]⟩)else none
       |none=>none)
     |_,_=>none)
   | none,some l,none=>(match ρ l,und E t with
     | some (.int _ a),some (.slice e)=>(match E.ti e with
       |some ie=>bif Nat.beq ie.size sz then some (some (0<=a/\a<=els.length),.func (.yield sz) ⟨els.drop a.toNat⟩ ⟨[]⟩)else none
       |none=>none)
     |_,_=>none)
   |_,_,_=>qd E A ρ ty (.slice t x lo hi mx))
 | some (.slice (some ⟨B,o,none⟩) n m)=>(match isG m with
   | true =>(match und E t with
     | some (.slice e)=>(match E.ti e with
       | some ie=>bif Nat.beq ie.size (gsz m)&&Nat.blt 0 (gsz m)then(match mx,lo,hi with
         |none,none,none=>some (none,.slice (some ⟨B,o,none⟩) n m)
         |none,none,some h=>(match ρ h with|some (.int _ b)=>some (some (0<=b/\b<=n),.slice (some ⟨B,o,none⟩) b.toNat m)|_=>none)
         |none,some l,none=>(match ρ l with|some (.int _ a)=>some (some (0<=a/\a<=n),.slice (some ⟨B,gOff (gsz m) o a.toNat,none⟩) (n-a.toNat) m)|_=>none)
         |some z,none,some h=>(match ρ h,ρ z with|some (.int _ b),some (.int _ q)=>some (some (0<=b/\b<=q/\q<=n),.slice (some ⟨B,o,none⟩) b.toNat m)|_,_=>none)
         |none,some l,some h=>(match ρ l,ρ h with|some (.int _ a),some (.int _ b)=>some (some (0<=a/\a<=b/\b<=n),.slice (some ⟨B,gOff (gsz m) o a.toNat,none⟩) (b.toNat-a.toNat) m)|_,_=>none)
         |_,_,_=>none)else none
       |none=>none)
     |_=>none)
   |false=>qd E A ρ ty (.slice t x lo hi mx))
 |some (.string s)=>Cb E ρ t s lo hi mx
 |_=>qd E A ρ ty (.slice t x lo hi mx)
def cu (E:Env)(t:TypeId)(es:Lc)(k:Value):Option (Value×Bool):=
 match und E t with
 | some (.map kt et)=>bif flat k&&eZ E es.isEmpty kt k then
  (match iu E kt k es with
  |some (some (_,v))=>some (v,true)
  | some none=>(match E.ti et with
    | some i=>(match i.zero with
      |some z=>bif flat z then some (z,false)else none
      |none=>none)
    |none=>none)
  |none=>none)else none
 |_=>none
def sxLk(E:Env)(el:El)(A:AH)(ρ:Operand->Lj)(ty:TypeId)(t:TypeId)(x i:Operand)(cok:Bool):Option (Ll×Value):=
 match ρ x with
 | some (.map (some B))=>(match A.t.get B,ρ i with
   | some (.map es _),some k=>(match el.ml t es k with
     |some r=>some (some (cu E t es k=some r),bif cok then .tuple ⟨[r.1,.bool r.2]⟩else r.1)
     |none=>qd E A ρ ty (.lookup t x i cok))
   |_,_=>none)
 |_=>qd E A ρ ty (.lookup t x i cok)
theorem minI(a b:Int):(if b<a then b else a)=min a b:=by rw[Int.min_def];split<;>split<;>omega
theorem maxI(a b:Int):(if b>a then b else a)=max a b:=by rw[Int.max_def];split<;>split<;>omega
theorem u5{c:Call}{k i:IntKind}{a b:Int}(g:c.callee=.builtin .min)(j:mapO ρ c.args.toList=some [.int k a,.int i b]):quiet E A ρ ty (.call c)=some (.int k (min a b)):=by
 have h:bi E A ρ ty (.call c)=some (.int k (min a b)):=by simp only[bi,g,jN,j];rw[<-minI a b];rfl
 unfold quiet;split;exact h;have:symQ E ρ (.call c)=none:=by simp[symQ,g]
 rw[this];exact h
theorem u6{c:Call}{k i:IntKind}{a b:Int}(g:c.callee=.builtin .max)(j:mapO ρ c.args.toList=some [.int k a,.int i b]):quiet E A ρ ty (.call c)=some (.int k (max a b)):=by
 have h:bi E A ρ ty (.call c)=some (.int k (max a b)):=by simp only[bi,g,jN,j];rw[<-maxI a b];rfl
 unfold quiet;split;exact h;have:symQ E ρ (.call c)=none:=by simp[symQ,g]
 rw[this];exact h
def sxBlt(E:Env)(A:AH)(ρ:Operand->Lj)(ty:TypeId)(c:Call):Option (Ll×Value):=
 match c.callee with
 | .builtin .min=>(match mapO ρ c.args.toList with
   |some [.int k a,.int _ b]=>some (none,.int k (min a b))
   |_=>qd E A ρ ty (.call c))
 | .builtin .max=>(match mapO ρ c.args.toList with
   |some [.int k a,.int _ b]=>some (none,.int k (max a b))
   |_=>qd E A ρ ty (.call c))
 | .builtin _=>qd E A ρ ty (.call c)
 |_=>none
def az(s:ByteArray)(i:Int):Int:=match nth s.data.toList i.toNat with|some b=>(b.toNat:Int)|none=>0
def sxIx(E:Env)(A:AH)(ρ:Operand->Lj)(ty:TypeId)(t:TypeId)(x i:Operand):Option (Ll×Value):=
 match ρ x with
 | some (.string s)=>(match ρ i,und E t with
   |some (.int _ n),some .string=>some (some (0<=n/\n<s.size),.int .u8 (az s n))
   |_,_=>none)
 |_=>qd E A ρ ty (.index t x i)
def u8L(c:Lh)(o n:Nat):List UInt8:=((c.drop o).take n).map λv=>match v with| .int _ k=>UInt8.ofNat k.toNat|_=>0
def IsB(c:Lh)(o n:Nat):Prop:=∃ bs:List UInt8,(c.drop o).take n=bs.map (λb=>Value.int .u8 b.toNat)/\bs.length=n
theorem lB:∀ bs:List UInt8,km (bs.map λb=>Value.int .u8 b.toNat)=some bs
 | []=>rfl
 |b::bs=>by simp[km,lB bs]
theorem Ap(bs:List UInt8):(bs.map λb=>Value.int .u8 b.toNat).map (λv=>match v with| .int _ k=>UInt8.ofNat k.toNat|_=>0)=bs:=by
 rw[Hp];conv=>rhs;rw[<-HZ bs]
 exact GT λx _=>by simp
theorem v5(h:IsB c o n):∃ bs:List UInt8,(c.drop o).take n=bs.map (λb=>Value.int .u8 b.toNat)/\bs.length=n/\u8L c o n=bs:=by obtain⟨bs,a,g⟩:=h;exact⟨bs,a,g,by unfold u8L;rw[a];exact Ap bs⟩
def sxCv(E:Env)(el:El)(A:AH)(ρ:Operand->Lj)(ty:TypeId)(s t:TypeId)(x:Operand):Option (Ll×Value):=
 match el.app,ρ x with
 | true,some (.slice (some ⟨B,o,none⟩) n k)=>(match isG k,und E s,und E t,A.t.get B with
   | false,some (.slice e),some .string,some (.cells c _)=>(match und E e with
     |some (.int .u8)=>some (some (IsB c o n),.string (aw (u8L c o n)))
     |_=>none)
   |true,_,_,_=>none
   |_,_,_,_=>qd E A ρ ty (.convert s t x))
 |_,_=>qd E A ρ ty (.convert s t x)
def sxAdd(E:Env)(A:AH)(ρ:Operand->Lj)(ty:TypeId)(t:TypeId)(x y:Operand)(t2:TypeId):Option (Ll×Value):=
 match ρ x with
 | some (.string a)=>(match ρ y with
   |some (.string b)=>some (some (a.data.toList.length+b.data.toList.length<=4611686018427387904),.string (aw (a.data.toList++b.data.toList)))
   |_=>none)
 |_=>qd E A ρ ty (.binOp .add t x y t2)
def sxQ(E:Env)(el:El)(A:AH)(ρ:Operand->Lj)(ty:TypeId)(op:Op):Option (Ll×Value):=
 match op with
 | .indexAddr t x i=>sxIdx E A ρ ty t x i
 | .load t a=>As E el A ρ ty t a
 | .slice t x lo hi mx=>sxSli E A ρ ty t x lo hi mx
 | .binOp op t x y t2=>(match op with
   | .quo=>ye E A ρ ty .quo t x y t2 (λk a b=>k.wrap (a.tdiv b))
   | .rem=>ye E A ρ ty .rem t x y t2 (λk a b=>a.tmod b)
   | .add=>sxAdd E A ρ ty t x y t2
   |op=>qd E A ρ ty (.binOp op t x y t2))
 | .call c=>sxBlt E A ρ ty c
 | .lookup t x i cok=>sxLk E el A ρ ty t x i cok
 | .index t x i=>sxIx E A ρ ty t x i
 | .convert s t x=>sxCv E el A ρ ty s t x
 |op=>qd E A ρ ty op
theorem cV(b:E.sym=true){a:Op}(g:symQ E ρ a=none)(h:groQ E A ρ a=some v):quiet E A ρ ty a=some v:=by unfold quiet;rw[b];simp only[g,h]
theorem eT(b:E.sym=true){a:Op}(j:symQ E ρ a=none)(i:groQ E A ρ a=none)(h:bi E A ρ ty a=some v)(g:arrQ E A ρ a=none:=by rfl):quiet E A ρ ty a=some v:=by unfold quiet;rw[b];simp only[j,i,g,h]
theorem n7(b:E.sym=true){a:Op}(i:symQ E ρ a=none)(g:groQ E A ρ a=none)(h:arrQ E A ρ a=some v):quiet E A ρ ty a=some v:=by unfold quiet;rw[b];simp only[i,g,h]
theorem zh{es:Lc}{cl:Nat}{k:Value}{r:Value×Bool}{g:Bool}(D:A.t.get B=some (.map es cl))(h:cu E t es k=some r):
 fX E A t (.map (some B)) k g=some (bif g then .tuple ⟨[r.1,.bool r.2]⟩else r.1):=by unfold cu at h;unfold fX;split at h;rename_i q G y;rw[y];cases b:(flat k&&eZ E es.isEmpty q k);rw[b]at h;simp at h;rw[b]at h;simp only[D']at h;simp only[f']at b;simp only[b.1,D',D,b.2];split at h;rename_i j v l;cases h;rw[l];rename_i l;rw[l];simp only;split at h;rename_i i C;rw[C];simp only;split at h;rename_i z u;rw[u];simp only;cases a:flat z;rw[a]at h;simp at h;rw[a]at h;simp only[D',osI]at h;subst h;rfl;cases h;cases h;cases h;cases h
theorem cW{a:Op}(h:qd E A ρ ty a=some (p,v)):quiet E A ρ ty a=some v:=by unfold qd at h;split at h;rename_i u b;simp only[osI,Gx]at h;rw[b,h.2];cases h
theorem yu(g:E.sym=true){x i:Operand}{k:IntKind}{n:Int}(a:ρ x=some (.string s))(l:ρ i=some (.int k n))(b:und E t=some .string)(q:0<=n)(r:n<s.size):quiet E A ρ ty (.index t x i)=some (.int .u8 (az s n)):=by
 refine eT g rfl rfl ?_;have j:n.toNat<s.data.toList.length:=by
  have:s.data.toList.length=s.size:=by simp
  omega
 have h:nth s.data.toList n.toNat=some s.data.toList[n.toNat]:=by rw[aS];exact Gq j
 simp only[bi,a,l,k6,b,q,HX,D',h,az]
theorem yd(H:E.sym=true){x:Operand}{lo C z:Option Operand}(g:ρ x=some (.string s))(h:Cb E ρ t s lo C z=some (p,v))(q:PH p):quiet E A ρ ty (.slice t x lo C z)=some v:=by
 have y:Nat.ble s.size s.size=true:=by rw[GI];omega
 unfold Cb at h;split at h;rename_i l;refine eT H (by simp[symQ,g]) (by simp[groQ,g]) ?_;split at h;rename_i I;split at h;rename_i k b r;cases h;obtain⟨i,D⟩:0<=b/\b<=s.size:=q;have j:Nat.ble b.toNat s.size=true:=by rw[GI];omega
 have K:Nat.ble 0 b.toNat=true:=by rw[GI];omega
 simp[bi,g,optA,r,scal,sliA,l,bnds,db,i,y,j,K,subB];cases h;rename_i G;split at h;rename_i k a u;cases h;obtain⟨i,D⟩:0<=a/\a<=s.size:=q;have j:Nat.ble a.toNat s.size=true:=by rw[GI];omega
 simp[bi,g,optA,u,scal,sliA,l,bnds,db,i,y,j,subB];cases h;rename_i G I;split at h;rename_i O a M b u r;cases h;obtain⟨i,D,Q⟩:0<=a/\a<=b/\b<=s.size:=q;have J:0<=b:=by omega
 have j:Nat.ble a.toNat b.toNat=true:=by rw[GI];omega
 have L:Nat.ble b.toNat s.size=true:=by rw[GI];omega
 simp[bi,g,optA,u,r,scal,sliA,l,bnds,db,i,J,y,j,L,subB];cases h;cases h;cases h
theorem ut(G:E.sym=true){el:El}{op:Op}(h:sxQ E el A ρ ty op=some (p,v))(C:PH p):quiet E A ρ ty op=some v:=by
 unfold sxQ at h;split at h;rename_i t x i;unfold sxIdx at h;split at h;rename_i sz els g;split at h;rename_i k n e O D;split at h;rename_i ie z;cases l:(Nat.beq ie.size sz&&Nat.blt 0 sz);rw[l]at h;cases h;rw[l]at h;simp only[D',osI,Gx]at h;obtain⟨rfl,rfl⟩:=h;exact u7 G g O D z l C.1 C.2;cases h;cases h;rename_i B o n m g;split at h;rename_i Q;split at h;rename_i kk k e O D;split at h;rename_i ie z;cases l:(Nat.beq ie.size (gsz m)&&Nat.blt 0 (gsz m));rw[l]at h;cases h;rw[l]at h;simp only[D',osI,Gx]at h;obtain⟨rfl,rfl⟩:=h;obtain⟨I,K⟩:0<=k/\k<(n:Int):=C;refine cV G (by simp[symQ,g]) ?_;simp only[groQ,g,Q,O,D,z,l,I,K,HX,HJ,D'];cases h;cases h;exact cW h;rename_i B g;split at h;rename_i kk k X el O D;split at h;rename_i ie z;cases l:(Nat.beq ie.size 1&&Nat.ble 64 X);rw[l]at h;exact cW h;rw[l]at h;simp only[D',osI,Gx]at h;obtain⟨rfl,rfl⟩:=h;obtain⟨I,K⟩:0<=k/\k<(X:Int):=C;refine n7 G (by simp[symQ,g]) (by simp[groQ,g]) ?_;simp only[arrQ,g,O,D,z,l,I,K,HX,HJ,D'];cases h;exact cW h;exact cW h;rename_i t a;unfold As at h;split at h;rename_i sz els i j H;split at h;rename_i u D;split at h;rename_i v0 hv;cases h;exact tc G H C hv;cases h;exact cW h;rename_i sz B i j H;split at h;rename_i els tl e R;split at h;rename_i ie u z D;cases l:Nat.beq ie.size sz;rw[l]at h;cases h;rw[l]at h;simp only[D']at h;split at h;rename_i v0 hv;cases h;have C:nth (glue els tl) i.toNat=some u:=C;refine cV G (by simp[symQ,H]) ?_;simp only[groQ,H,R,z,l,D'];rw[<-hv];simp[ldat,C,nth];cases h;cases h;rename_i els a1 n e R;split at h;rename_i d u D a4;cases l:bp d|| !(Nat.beq sz 1&&Nat.beq j.toNat 0)with
 |true=>rw[l]at h;cases h
 |false=>rw[l]at h;simp only[GN,osI,Gx]at h;obtain⟨rfl,rfl⟩:=h;have C:nth els i.toNat=some u:=C;refine n7 G (by simp[symQ,H]) (by simp[groQ,H,R]) ?_;simp only[arrQ,H,R,D,l,GN,C]
 cases h;exact cW h;exact cW h;rename_i t x lo O mx;unfold sxSli at h;split at h;rename_i sz els g;split at h;rename_i hh;split at h;rename_i k b e L D;split at h;rename_i ie z;cases l:Nat.beq ie.size sz;rw[l]at h;cases h;rw[l]at h;simp only[D',osI,Gx]at h;obtain⟨rfl,rfl⟩:=h;obtain⟨I,K⟩:0<=b/\b<=els.length:=C;have V:b.toNat<=els.length:=by omega
 have J:Nat.ble b.toNat els.length=true:=by rw[GI];exact V
 have S:Nat.ble els.length els.length=true:=by rw[GI];omega
 have e3:Nat.ble 0 b.toNat=true:=by rw[GI];omega
 refine dM G ?_;simp[symQ,g,optA,L,scal,D,bnds,db,I,J,S,e3,z,l];cases h;cases h;rename_i ll;split at h;rename_i k a e H D;split at h;rename_i ie z;cases l:Nat.beq ie.size sz;rw[l]at h;cases h;rw[l]at h;simp only[D',osI,Gx]at h;obtain⟨rfl,rfl⟩:=h;obtain⟨I,K⟩:0<=a/\a<=els.length:=C;have V:a.toNat<=els.length:=by omega
 have J:Nat.ble a.toNat els.length=true:=by rw[GI];exact V
 have S:Nat.ble els.length els.length=true:=by rw[GI];omega
 refine dM G ?_;simp[symQ,g,optA,H,scal,D,bnds,db,I,J,S,z,l];cases h;cases h;exact cW h;rename_i B o n m g;split at h;rename_i Q;split at h;rename_i e D;split at h;rename_i ie z;cases l:(Nat.beq ie.size (gsz m)&&Nat.blt 0 (gsz m));rw[l]at h;cases h;rw[l]at h;simp only[D']at h;have en:Nat.ble n n=true:=by rw[GI];omega
 split at h;cases h;refine cV G (by simp[symQ,g]) ?_;have e0:Nat.ble 0 n=true:=by rw[GI];omega
 simp[groQ,g,Q,optA,D,bnds,db,en,e0,z,l,mT];split at h;rename_i hh k b L;cases h;obtain⟨I,K⟩:0<=b/\b<=(n:Int):=C;have J:Nat.ble b.toNat n=true:=by rw[GI];omega
 have e3:Nat.ble 0 b.toNat=true:=by rw[GI];omega
 refine cV G (by simp[symQ,g]) ?_;simp[groQ,g,Q,optA,L,scal,D,bnds,db,I,en,J,e3,z,l,mT];cases h;split at h;rename_i ll k a H;cases h;obtain⟨I,K⟩:0<=a/\a<=(n:Int):=C;have J:Nat.ble a.toNat n=true:=by rw[GI];omega
 refine cV G (by simp[symQ,g]) ?_;simp[groQ,g,Q,optA,H,scal,D,bnds,db,I,en,J,z,l];cases h;split at h;rename_i zz hh k1 b k2 q L hq;cases h;obtain⟨I,K,V⟩:0<=b/\b<=q/\q<=(n:Int):=C;have Z:0<=q:=by omega
 have J:Nat.ble b.toNat q.toNat=true:=by rw[GI];omega
 have S:Nat.ble q.toNat n=true:=by rw[GI];omega
 have e3:Nat.ble 0 b.toNat=true:=by rw[GI];omega
 refine cV G (by simp[symQ,g]) ?_;simp[groQ,g,Q,optA,L,hq,scal,D,bnds,db,I,Z,en,J,S,e3,z,l,mT];cases h;split at h;rename_i ll hh k1 a k2 b H L;cases h;obtain⟨I,K,V⟩:0<=a/\a<=b/\b<=(n:Int):=C;have Z:0<=b:=by omega
 have J:Nat.ble a.toNat b.toNat=true:=by rw[GI];omega
 have S:Nat.ble b.toNat n=true:=by rw[GI];omega
 refine cV G (by simp[symQ,g]) ?_;simp[groQ,g,Q,optA,H,L,scal,D,bnds,db,I,Z,en,J,S,z,l];cases h;cases h;cases h;cases h;exact cW h;rename_i s g;exact yd G g h C;exact cW h;rename_i op t x y t2;split at h;unfold ye at h;split at h;rename_i k a g;split at h;rename_i U b Y;cases M:dn k U;rw[M]at h;cases h;rw[M]at h;simp only[D',osI,Gx]at h;obtain⟨rfl,rfl⟩:=h;have L:b≠0:=C;have e:k=U:=by simpa[dn]using M
 subst e;exact u4 G g Y (by simp[L]);cases h;exact cW h;unfold ye at h;split at h;rename_i k a g;split at h;rename_i U b Y;cases M:dn k U;rw[M]at h;cases h;rw[M]at h;simp only[D',osI,Gx]at h;obtain⟨rfl,rfl⟩:=h;have L:b≠0:=C;have e:k=U:=by simpa[dn]using M
 subst e;exact u3 G g Y (by simp[L]);cases h;exact cW h;unfold sxAdd at h;split at h;rename_i a g;split at h;rename_i b Y;cases h;have C:a.data.toList.length+b.data.toList.length<=4611686018427387904:=C;refine eT G (by simp[symQ,g]) (by simp[groQ]) ?_;have J:Nat.ble (a.data.toList.length+b.data.toList.length) 4611686018427387904=true:=by rw[GI];exact C
 simp only[bi,g,Y,binA,gb,strO,J,D'];cases h;exact cW h;exact cW h;rename_i c;unfold sxBlt at h;split at h;rename_i hc;split at h;rename_i k a U b H;cases h;exact u5 hc H;exact cW h;rename_i hc;split at h;rename_i k a U b H;cases h;exact u6 hc H;exact cW h;exact cW h;cases h;rename_i t x i a5;unfold sxLk at h;split at h;rename_i B g;split at h;rename_i es cl k R M;split at h;rename_i r hr;cases h;have C:cu E t es k=some r:=C;refine eT G (by simp[symQ]) (by simp[groQ]) ?_;simp only[bi,g,M];exact zh R C;exact cW h;cases h;exact cW h;rename_i t x i;unfold sxIx at h;split at h;rename_i s g;split at h;rename_i k n O D;cases h;obtain⟨I,K⟩:0<=n/\n<s.size:=C;exact yu G g O D I K;cases h;exact cW h;rename_i s t x;unfold sxCv at h;split at h;rename_i B o n k a2 g;split at h;rename_i e c S Q a0 ht R;split at h;rename_i he;cases h;obtain⟨bs,K,V,Z⟩:=v5 C;refine eT G (by simp[symQ,g]) (by simp[groQ]) ?_;rw[Z];simp only[bi,g,zU,a0,ht,he];cases hn:Nat.beq n 0 with
 |true=>have a3:=Gt hn;have:bs=[]:=GY (by omega);rw[this];rfl
 | false=>
  have hl:fY A B o n=some (bs.map λb=>Value.int .u8 b.toNat):=by
   have J:Nat.beq (bs.map λb=>Value.int .u8 b.toNat).length n=true:=by rw[GG];simp[V]
   simp only[fY,look,R,K,J,D']
  simp only[GN,hl,lB]
 cases h;cases h;exact cW h;exact cW h;exact cW h
def putK(n:Nat)(F:T Value)(dst:Option Tmp)(v:Value)(k:T Value->Prop):Prop:=match put n F dst v with|some F'=>k F'|none=>False
def setK(F:T Value)(d:Nat)(v:Value)(k:T Value->Prop):Prop:=match T.set FU F d v with|some F'=>k F'|none=>False
theorem lS{k:T Value->Prop}(h:setK F d v k):∃ a,T.set FU F d v=some a/\k a:=by unfold setK at h;split at h;rename_i a b;exact⟨a,b,h⟩;exact h.elim
def sxG (ops:List Oper)(F:T Value)(o:Oper)(kT kF:T Value->Prop):Prop:=
 match o.guard with
 |none=>kT F
 | some (j,want)=>(match nth ops j with
   | some oj=>(match oj.dst with
     | some d=>(match slot F d with
       |some (.bool b)=>Sp b (setK F d (.bool true) (λF'=>Bool.rec (motive:=λ_=>Prop) (kF F') (kT F') want)) (setK F d (.bool false) (λF'=>Bool.rec (motive:=λ_=>Prop) (kT F') (kF F') want))
       |some _=>kF F
       |none=>False)
     |none=>kF F)
   |none=>kF F)
theorem Au{ops:List Oper}{o:Oper}{D G:T Value->Prop}(h:sxG ops F o D G):(cy ops F o=some true/\D F)∨(cy ops F o=some false/\G F):=by
 unfold sxG at h;unfold cy;split at h;rename_i r;rw[r];exact .inl ⟨rfl,h⟩;rename_i j a r;rw[r];simp only;split at h;rename_i I q;rw[q];simp only;split at h;rename_i d hd;rw[hd];simp only;split at h;rename_i b g;rw[g];simp only;unfold slot at g;rcases h.cases with⟨y,C⟩|⟨y,C⟩;obtain⟨H,z,i⟩:=lS C;rw[y]at g ⊢;rw[cC _ _ _ _ _ g z]at i;cases a with
 |true=>exact .inl ⟨rfl,i⟩
 |false=>exact .inr ⟨rfl,i⟩
 obtain⟨H,z,i⟩:=lS C;rw[y]at g ⊢;rw[cC _ _ _ _ _ g z]at i;cases a with
 |true=>exact .inr ⟨rfl,i⟩
 |false=>exact .inl ⟨rfl,i⟩
 rename_i u l g;rw[g];refine .inr ⟨?_,h⟩;cases u<;>first|rfl|exact absurd rfl (l _)
 exact h.elim;rename_i hd;rw[hd];exact .inr ⟨rfl,h⟩;rename_i q;rw[q];exact .inr ⟨rfl,h⟩
def appS(E:Env)(A:AH)(ts:List TypeId)(B sl:Nat)(x:Value):Option (Ll×Value×AH):=bif E.sym then none else none
theorem Ge{a:Nat}(h:appS E A ts B a x=some (p,v,A'))(g:PH p):eE E A ts (.slice (some ⟨B,o,none⟩) a unk) x=some (v,A'):=by unfold appS at h;cases b:E.sym<;>rw[b]at h<;>cases h
def wx (E:Env)(el:El)(A:AH)(t:TypeId)(B sz:Nat)(i j:Int)(v:Value)(s:Nat):Option (Ll×Value×AH):=
 match E.ti t,A.t.get B with
 | some ti,some (.gro els0 tl e)=>(match E.ti e with
   | some ie=>bif (Nat.beq ie.size sz&&Nat.beq v.cells.toList.length ti.size)&&v.cells.toList.all cellv then
    (match Nat.beq v.cells.toList.length sz&&Nat.beq j.toNat 0 with
    |true=>(match T.set FU A.t B (.gro ((glue els0 tl).set i.toNat v) [] e)with|some t=>some (some (i.toNat<(glue els0 tl).length),undef,⟨t,A.next⟩)|none=>none)
    | false=>(match el.at' sz s (glue els0 tl) i with
      | some u=>bif Nat.ble (j.toNat+v.cells.toList.length) sz&& !Nat.beq v.cells.toList.length sz then
       (match T.set FU A.t B (.gro ((glue els0 tl).set i.toNat (.agg ⟨over u.cells.toList j.toNat v.cells.toList⟩)) [] e)with|some t=>some (some (nth (glue els0 tl) i.toNat=some u),undef,⟨t,A.next⟩)|none=>none)else none
      |none=>none))
    else none
   |none=>none)
 |_,_=>none
theorem wu{I:El}{i j:Int}{s:Nat}(h:wx E I A t B sz i j v s=some (p,v2,A'))(g:PH p):dZ E A t B sz i.toNat j.toNat v=some A'/\v2=undef:=by
 unfold wx at h;unfold dZ;split at h;rename_i D l tl e q H;rw[q,H];simp only;generalize glue l tl=els at h ⊢;split at h;rename_i ie y;rw[y];cases b:(Nat.beq ie.size sz&&Nat.beq v.cells.toList.length D.size)&&v.cells.toList.all cellv;rw[b]at h;simp at h;rw[b]at h;simp only[D']at h;simp only[f']at b;split at h;rename_i C;simp only[f',GG]at C;split at h;rename_i t2 r;cases h;have g:i.toNat<els.length:=g;have G:nth els i.toNat=some els[i.toNat]:=by rw[aS];exact Gq g
 rw[G];have J:Nat.ble (j.toNat+v.cells.toList.length) sz=true:=by rw[GI];omega
 have z:nP els[i.toNat] v sz j.toNat=v:=by
  unfold nP;have:Nat.beq v.cells.toList.length sz=true:=by rw[GG];exact C.1
  rw[this];rfl
 simp only[b.1.1,b.1.2,b.2,J,z,r,HJ,D',and_self];cases h;split at h;rename_i u K;cases a:(Nat.ble (j.toNat+v.cells.toList.length) sz&& !Nat.beq v.cells.toList.length sz);rw[a]at h;simp at h;rw[a]at h;simp only[D']at h;simp only[f',Io]at a;split at h;rename_i t2 r;cases h;have g:nth els i.toNat=some u:=g;rw[g];have z:nP u v sz j.toNat=.agg ⟨over u.cells.toList j.toNat v.cells.toList⟩:=by unfold nP;rw[a.2];rfl
 simp only[b.1.1,b.1.2,b.2,a.1,z,r,HJ,D',and_self];cases h;cases h;cases h;cases h
def srcS(E:Env)(A:AH)(e:TypeId)(sz:Nat)(x:Value):Option (Ll×Lh):=
 match x with
 | .slice (some ⟨B,o,none⟩) n m=>(match isG m with
   | true=>(match A.t.get B with
     | some (.gro els tl e2)=>(match E.ti e2 with
       |some ie=>bif (Nat.beq ie.size sz&&Nat.beq (gsz m) sz)&&Nat.blt 0 sz then some (some (n+gLo sz o<=(glue els tl).length),((glue els tl).drop (gLo sz o)).take n)else none
       |none=>none)
     |_=>none)
   |false=>(match srcG E A e sz (.slice (some ⟨B,o,none⟩) n m)with|some l=>some (none,l)|none=>none))
 |x=>(match srcG E A e sz x with|some l=>some (none,l)|none=>none)
theorem Cq{l:Lh}(h:srcS E A e sz x=some (p,l))(b:PH p):srcG E A e sz x=some l:=by
 unfold srcS at h;split at h;rename_i B o n m;split at h;rename_i q;split at h;rename_i els tl y r;split at h;rename_i ie i;cases a:(Nat.beq ie.size sz&&Nat.beq (gsz m) sz)&&Nat.blt 0 sz;rw[a]at h;simp at h;rw[a]at h;simp only[D',osI,Gx]at h;obtain⟨rfl,rfl⟩:=h;have b:n+gLo sz o<=(glue els tl).length:=b;simp only[f']at a;have u:Nat.ble (n+gLo sz o) (glue els tl).length=true:=by rw[GI];exact b
 simp only[srcG,q,r,i,a.1.1,a.1.2,a.2,u,HJ,D'];cases h;cases h;split at h;rename_i j g;simp only[osI,Gx]at h;rw[g,h.2];cases h;split at h;rename_i j g;simp only[osI,Gx]at h;rw[g,h.2];cases h
def p4 (E : Env)(A:AH)(ts:List TypeId)(B o n m:Nat)(x:Value):Option (Ll×Value×AH):=
 match ts with
 | [t, tx] => (match und E t,und E tx with
   | some (.slice e),some dx=>(match E.ti e,A.t.get B with
     | some ie, some (.gro els tl eb)=>(match ie.zero,srcS E A e ie.size x with
       | some z,some s=>
         bif (cM dx&&(Nat.beq z.cells.toList.length ie.size&&Nat.blt 0 ie.size))&&(Nat.beq eb e&&(Nat.beq (gsz m) ie.size&&isG m))then
             (match T.set FU A.t B .dead with
             | some t'=>(match T.set FU t' A.next (.gro (oT o (gLo ie.size o) (glue els tl)) s.2 e)with
               |some t''=>some (some (pc s.1 ((an s.2).all cellv=true/\n+gLo ie.size o=(glue els tl).length/\n+s.2.length<=70368744177664/\(n+s.2.length)*ie.bytes<=140737488355328)),.slice (some ⟨A.next,0,none⟩) (n+s.2.length) m,⟨t'',A.next+1⟩)
               |none=>none)
             |none=>none)
         else none
       |_,_=>none)
     |_,_=>none)
   |_,_=>none)
 |_=>none
theorem tN(h:p4 E A ts B o n m x=some (p,v,A'))(G:PH p):oG E A ts B o n m x=some (v,A'):=by
 unfold p4 at h;unfold oG;split at h;rename_i t U;simp only;split at h;rename_i e M C i;rw[C,i];simp only;split at h;rename_i ie b g I r H;rw[r,H];simp only;generalize glue b g=els at h ⊢;split at h;rename_i z s y D;rw[y];cases u:(cM M&&(Nat.beq z.cells.toList.length ie.size&&Nat.blt 0 ie.size))&&(Nat.beq I e&&(Nat.beq (gsz m) ie.size&&isG m));rw[u]at h;simp at h;rw[u]at h;simp only[D']at h;split at h;rename_i t1 j;split at h;rename_i t2 a;cases h;obtain⟨q,S,R,Q,O⟩:=dh (show pc s.1 _ from G);rw[Cq (p:=s.1) (l:=s.2) D q];rw[sy]at a;have L:Nat.beq (n+gLo ie.size o) els.length=true:=by rw[GG];exact R
 have K:Nat.ble (n+s.2.length) 70368744177664=true:=by rw[GI];exact Q
 have J:Nat.ble ((n+s.2.length)*ie.bytes) 140737488355328=true:=by rw[GI];exact O
 simp only[u,S,L,K,J,j,a,HJ,D'];cases h;cases h;cases h;cases h;cases h;cases h
def mL(E:Env)(A:AH)(ts:List TypeId)(B o n m:Nat)(x:Value):Option (Ll×Value×AH):=bif E.sym then none else none
theorem p5(h:mL E A ts B o n m x=some (p,v,A'))(b:PH p):mM E A ts B o n m x=some (v,A'):=by unfold mL at h;cases a:E.sym<;>rw[a]at h<;>cases h
def ba(E:Env)(t:TypeId)(es:Lc)(clock:Nat)(k v:Value):Option (Lc×Nat):=
 match und E t with
 | some (.map kt et)=>bif flat k&&eZ E false kt k then
  (match iu E kt k es with
  |some none=>some (es++[(k,v,clock)],clock+1)
  | some (some (i,_))=>(match nth es i with
    |some (key,_,born)=>bif Instr.sameBits 10000 key k then some (es.set i (k,v,born),clock)else none
    |none=>none)
  |none=>none)else none
 |_=>none
theorem th{es g:Lc}{a c':Nat}{k:Value}(D:A.t.get B=some (.map es a))(h:ba E t es a k v=some (g,c')):fV E A t (.map (some B)) k v=setA A B (.map g c'):=by unfold ba at h;unfold fV;split at h;rename_i y H z;rw[z];cases q:(flat k&&eZ E false y k);rw[q]at h;simp at h;rw[q]at h;simp only[D']at h;simp only[D,q,D'];split at h;rename_i l;rw[l];cases h;rfl;rename_i i u l;rw[l];simp only;split at h;rename_i j G r C;rw[C];cases b:Instr.sameBits 10000 j k;rw[b]at h;simp at h;rw[b]at h;simp only[D',osI,Gx]at h;obtain⟨rfl,rfl⟩:=h;simp only[b,D'];cases h;cases h;cases h
def zb(E:Env)(el:El)(A:AH)(t:TypeId)(B:Nat)(k v:Value):Option (Ll×Value×AH):=
 match A.t.get B with
 | some (.map es clock)=>(match el.mu t es clock k v with
   |some r=>(match setA A B (.map r.1 r.2)with|some A'=>some (some (ba E t es clock k v=some r),undef,A')|none=>none)
   |none=>none)
 |_=>none
theorem rt{l:El}{k:Value}(h:zb E l A t B k v=some (p,v2,A'))(b:PH p):fV E A t (.map (some B)) k v=some A'/\v2=undef:=by unfold zb at h;split at h;rename_i j a g;split at h;rename_i r q;split at h;rename_i u i;cases h;have b:ba E t j a k v=some (r.1,r.2):=b;rw[th g b];exact⟨i,rfl⟩;cases h;cases h;cases h
def delE(E:Env)(t:TypeId)(es:Lc)(k:Value):Option Lc:=
 match und E t with
 | some (.map kt et)=>bif flat k then bif eZ E es.isEmpty kt k then(match iu E kt k es with
   |some none=>some es
   |some (some (i,_))=>some (es.eraseIdx i)
   |none=>none)else none else none
 |_=>none
def delS(E:Env)(el:El)(A:AH)(ts:List TypeId)(B:Nat)(k:Value):Option (Ll×Value×AH):=
 match ts with
 | t ::_=>(match A.t.get B with
   | some (.map es clock)=>(match el.md t es k with
     |some es2=>(match setA A B (.map es2 clock)with|some A'=>some (some (delE E t es k=some es2),undef,A')|none=>none)
     |none=>none)
   |_=>none)
 |_=>none
theorem Fz{H:El}{k:Value}(h:delS E H A ts B k=some (p,v2,A'))(a:PH p):delA E A ts (.map (some B)) k=some A'/\v2=undef:=by unfold delS at h;split at h;rename_i t z;split at h;rename_i y j G;split at h;rename_i g I;split at h;rename_i K r;cases h;have a:delE E t y k=some g:=a;refine⟨?_,rfl⟩;unfold delE at a;unfold delA;simp only;split at a;rename_i C J D;rw[D];simp only;cases q:flat k;rw[q]at a;cases a;rw[q]at a;simp only[D']at a ⊢;rw[G];simp only;cases l:eZ E y.isEmpty C k;rw[l]at a;cases a;rw[l]at a;simp only[D']at a ⊢;split at a;rename_i b;rw[b];cases a;exact r;rename_i i u b;rw[b];cases a;exact r;cases a;cases a;cases h;cases h;cases h;cases h
def wz(E:Env)(A:AH)(ts:List TypeId)(B o n m B2 o2 n2 m2:Nat):Option (Ll×Value×AH):=bif E.sym then none else none
theorem wy{o2 a b:Nat}(h:wz E A ts B o n m B2 o2 a b=some (p,v,A'))(i:PH p):mK E A ts B o n m B2 o2 a b=some (v,A'):=by unfold wz at h;cases g:E.sym<;>rw[g]at h<;>cases h
def sxUs(E:Env)(A:AH)(ats:List TypeId)(p n:Value):Option (Ll×Value×AH):=bif E.sym then none else none
theorem Ca{a:List TypeId}{p n:Value}{q:Ll}(h:sxUs E A a p n=some (q,v,A'))(g:PH q):x7 E A a p n=some (v,A'):=by unfold sxUs at h;cases b:E.sym<;>rw[b]at h<;>cases h
def xM(E:Env)(A:AH)(t:TypeId)(B sz:Nat)(i j:Int)(v:Value):Option (Ll×Value×AH):=
 match A.t.get B with
 | some (.arr els rest n e)=>(match E.ti t,v.cells.toList with
   | some ti,[x]=>bif (Nat.beq sz 1&&Nat.beq j.toNat 0)&&(Nat.beq ti.size 1&&cellv x)then
    (match T.set FU A.t B (.arr (els.set i.toNat x) rest n e)with|some t=>some (some (i.toNat<n),undef,⟨t,A.next⟩)|none=>none)else none
   |_,_=>none)
 |_=>none
theorem xL{i j:Int}(h:xM E A t B sz i j v=some (p,v2,A'))(g:PH p):
 iA E A t (.func (.yield sz) ⟨[.pointer (some ⟨B,0,none⟩)]⟩ ⟨[.int .i64 i,.int .i64 j,.bool true]⟩) v=some A'/\v2=undef:=by
 unfold xM at h;split at h;rename_i els l n e q;have z:jz E A t (.func (.yield sz) ⟨[.pointer (some ⟨B,0,none⟩)]⟩ ⟨[.int .i64 i,.int .i64 j,.bool true]⟩) v=none:=by show dZ E A t B sz i.toNat j.toNat v=none;unfold dZ;rw[q];cases E.ti t<;>rfl
 unfold iA;rw[z];simp only[jf,q];split at h;rename_i r x b u;rw[b,u];simp only;cases a:(Nat.beq sz 1&&Nat.beq j.toNat 0)&&(Nat.beq r.size 1&&cellv x);rw[a]at h;simp at h;rw[a]at h;simp only[D']at h;simp only[f']at a;split at h;rename_i t2 y;cases h;have g:i.toNat<n:=g;have C:Nat.blt i.toNat n=true:=by rw[HN];exact g
 simp only[a.1.1,a.1.2,a.2.1,a.2.2,C,HJ,D',y,and_self];cases h;cases h;cases h
def isArr(A:AH)(B:Nat):Bool:=match A.t.get B with|some (.arr ..)=>true|_=>false
def sxG1 (E:Env)(el:El)(A:AH)(ρ:Operand->Lj)(op:Op):Option (Ll×Value×AH):=
 match op with
 | .store t a x=>(match ρ a,ρ x with
   | some (.func (.yield sz) ⟨[.pointer (some ⟨B,0,none⟩)]⟩ ⟨[.int .i64 i,.int .i64 j,.bool true]⟩),some v=>(match isArr A B with
     |true=>xM E A t B sz i j v
     |false=>wx E el A t B sz i j v (yO a))
   |_,_=>none)
 | .mapUpdate t m k x=>(match ρ m,ρ k,ρ x with|some (.map (some B)),some k,some v=>zb E el A t B k v|_,_,_=>none)
 | .insert t m k x=>(match ρ m,ρ k,ρ x with|some (.map (some B)),some k,some v=>zb E el A t B k v|_,_,_=>none)
 | .call c=>(match c.callee with
   | .builtin .append=>(match c.args.toList with
     | [x,y]=>(match ρ x,ρ y with
       | some (.slice (some ⟨B,o,none⟩) sl sk),some src=>(match isG sk with
         |true=>bif CD B src then mL E A c.argTypes.toList B o sl sk src else p4 E A c.argTypes.toList B o sl sk src
         |false=>bif el.app&&Nat.beq sk unk then appS E A c.argTypes.toList B sl src else none)
       |_,_=>none)
     |_=>none)
   | .builtin .copy=>(match c.args.toList with
     | [x,y]=>(match ρ x,ρ y with
       | some (.slice (some ⟨B,o,none⟩) n m),some (.slice (some ⟨B2,o2,none⟩) n2 m2)=>(match isG m with
         |true=>wz E A c.argTypes.toList B o n m B2 o2 n2 m2
         |false=>none)
       |_,_=>none)
     |_=>none)
   | .builtin .unsafeString=>(match el.app,c.args.toList with
     | true,[x,y]=>(match ρ x,ρ y with
       |some p,some n=>sxUs E A c.argTypes.toList p n
       |_,_=>none)
     |_,_=>none)
   | .builtin .delete=>(match c.args.toList with
     | [x,y]=>(match ρ x,ρ y with
       |some (.map (some B)),some k=>delS E el A c.argTypes.toList B k
       |_,_=>none)
     |_=>none)
   |_=>none)
 |_=>none
theorem uv{O:El}{J:Op}(h:sxG1 E O A ρ J=some (p,v,A'))(l:PH p):effA E A ρ J=some (v,A'):=by
 unfold sxG1 at h;split at h;rename_i t a x;split at h;rename_i sz B i j I M g;split at h;obtain⟨q,rfl⟩:=xL h l;simp only[effA,M,g,q];obtain⟨q,rfl⟩:=wu h l;simp only[effA,M,g,iA,jz,q];cases h;rename_i t m k x;split at h;rename_i B K I H r g;obtain⟨q,rfl⟩:=rt h l;simp only[effA,H,r,g,q];cases h;rename_i t m k x;split at h;rename_i B K I H r g;obtain⟨q,rfl⟩:=rt h l;simp only[effA,H,r,g,q];cases h;rename_i c;split at h;rename_i z;split at h;rename_i x y b;split at h;rename_i B o sl Q G g u;simp only[effA,z,effB,b,g,u];split at h;rename_i D;simp only[fj,D];cases C:CD B G with
 |true=>rw[C,D']at h;exact p5 h l
 |false=>rw[C]at h;exact tN h l
 rename_i D;simp only[fj,D];cases r:(O.app&&Nat.beq Q unk);rw[r]at h;simp at h;rw[r]at h;simp only[f']at r;obtain rfl:=Gt r.2;simp only[D']at h;exact Ge h l;cases h;cases h;rename_i z;split at h;rename_i x y b;split at h;rename_i B o n m B2 S U X g u;simp only[effA,z,effB,b,g,u];split at h;rename_i D;simp only[m6,D];exact wy h l;cases h;cases h;cases h;rename_i z;split at h;rename_i x y L b;split at h;rename_i R V g u;simp only[effA,z,effB,b,g,u];exact Ca h l;cases h;cases h;rename_i z;split at h;rename_i x y b;split at h;rename_i B K g u;obtain⟨q,rfl⟩:=Fz h l;simp only[effA,z,effB,b,g,u,q];cases h;cases h;cases h;cases h
def frzV(E:Env)(A:AH)(B2 n k:Nat):Option (Ll×Value):=
 match A.t.get B2 with
 | some (.cells c2 e2)=>(match E.ti e2,und E e2 with
   | some i2,some d2=>bif (Nat.blt k unk&&(Nat.ble n k&&Nat.beq (c2.take (n*i2.size)).length (n*i2.size)))&&((c2.take (n*i2.size)).all cellv&&(bp d2||Nat.beq i2.size 1))then
    some (none,.func (.yield i2.size) ⟨eJ (bp d2) i2.size n (c2.take (n*i2.size))⟩ ⟨[]⟩)else none
   |_,_=>none)
 | some (.gro els tl e2)=>(match E.ti e2 with
   |some i2=>bif isG k&&Nat.beq i2.size (gsz k)then some (some ((glue els tl).length=n),.func (.yield (gsz k)) ⟨glue els tl⟩ ⟨[]⟩)else none
   |none=>none)
 |_=>none
theorem ET(z:E.Ok)(R:Rel E.P σ A w)(h:frzV E A B2 n k=some (p,v))(j:PH p)(g:T.set FU A.t B2 .dead=some t1):
 ∃σ',Rel E.P σ' ⟨t1,A.next⟩ w/\Ext σ A w σ' ⟨t1,A.next⟩ w/\∀ v',VR σ' (.slice (some ⟨B2,0,none⟩) n k) v'->VR σ' v v':=by
 unfold frzV at h;split at h;rename_i q D l;split at h;rename_i b G i C;cases a:(Nat.blt k unk&&(Nat.ble n k&&Nat.beq (q.take (n*b.size)).length (n*b.size)))&&((q.take (n*b.size)).all cellv&&(bp G||Nat.beq b.size 1))with
 |false=>rw[a]at h;simp at h
 |true=>rw[a]at h;simp only[D',osI,Gx]at h;obtain⟨rfl,rfl⟩:=h;simp only[f',HE,GI,GG,HN]at a;obtain⟨⟨K,J,b2⟩,I,H⟩:=a;obtain⟨y,u,r⟩:=gL H n _ b2 I;exact EU R l K J r u y (by simp at b2;omega) g
 cases h;rename_i els tl D l;split at h;rename_i b i;cases a:(isG k&&Nat.beq b.size (gsz k));rw[a]at h;simp at h;rw[a]at h;simp only[D',osI,Gx]at h;obtain⟨rfl,rfl⟩:=h;simp only[f',GG]at a;have j:(glue els tl).length=n:=j;rw[b7]at j ⊢;exact wI R l a.1 (by simp[Program.cellsOf,z.ti _ _ i,a.2]) j g;cases h;cases h
def wN:Lh->Nat->Option (Nat×Nat×Nat×Nat)
 | [],_=>none
 | v::l,j=>match v with
   | .slice (some ⟨B,0,none⟩) n k=>some (j,B,n,k)
   |_=>wN l (j+1)
theorem sg:∀ {l:Lh}{i j B n k:Nat},wN l i=some (j,B,n,k)->∃ m,j=i+m/\l[m]? =some (.slice (some ⟨B,0,none⟩) n k)
 | [],i,j,B,n,k,h=>by simp[wN]at h
 |v::l,i,j,B,n,k,h=>by unfold wN at h;split at h;cases h;exact⟨0,rfl,rfl⟩;obtain⟨m,b,a⟩:=sg h;exact⟨m+1,by omega,by simpa using a⟩
def frzT (E:Env)(B:Nat):Nat->AH->(AH->Prop)->Prop
 |0,A,K=>K A
 | m + 1, A,K=>match A.t.get B with
   | some (.gro els tl e)=>(match wN (an tl) 0 with
     | some r=>(match frzV E A r.2.1 r.2.2.1 r.2.2.2,T.set FU A.t r.2.1 .dead,E.ti e,und E e with
       | some q,some t1,some ie,some d=>bif Nat.beq B r.2.1|| !(((((an tl).set r.1 q.2).all cellv)&&Nat.beq ((an tl).set r.1 q.2).length (tl.length*ie.size))&&(bp d||Nat.beq ie.size 1))then False else
         (match T.set FU t1 B (.gro els (eJ (bp d) ie.size tl.length ((an tl).set r.1 q.2)) e)with
         |some t2=>pc q.1 (frzT E B m ⟨t2,A.next⟩ K)
         |none=>False)
       |_,_,_,_=>False)
     |none=>K A)
   |_=>K A
theorem wD{E:Env}(y:E.Ok){B:Nat}:∀ {m:Nat}{A:AH}{K:AH->Prop},frzT E B m A K->∃ A',K A'/\∀ (σ:Sig) (w:World),Rel E.P σ A w->∃ σ',Rel E.P σ' A' w/\Ext σ A w σ' A' w
 |0,A,K,h=>⟨A,h,fun σ w R=>⟨σ,R,Ext.refl _ _ _⟩⟩
 | m+1,A,K,h=>by
  unfold frzT at h;split at h;rename_i els tl e Y;split at h;rename_i r S;split at h;rename_i q t1 ie d U b C hd;cases g:(Nat.beq B r.2.1|| !(((((an tl).set r.1 q.2).all cellv)&&Nat.beq ((an tl).set r.1 q.2).length (tl.length*ie.size))&&(bp d||Nat.beq ie.size 1)))with
  |true=>rw[g]at h;exact h.elim
  | false=>
   rw[g]at h;simp only[GN]at h;simp only[HR,IL,f',HE,GG]at g;obtain⟨a,⟨c1,c2⟩,Z⟩:=g;have a:=aX a;split at h;rename_i t2 z;obtain⟨V,h⟩:=dh h;obtain⟨A',X,H⟩:=wD y h;refine⟨A',X,fun σ w R=>?_⟩;obtain⟨u,R1,X1,Q⟩:=ET y R (p:=q.1) (v:=q.2) U V b;obtain⟨mm,J,I⟩:=sg (i:=0) (j:=r.1) (B:=r.2.1) (n:=r.2.2.1) (k:=r.2.2.2) S;obtain⟨O,M,L⟩:=gL Z tl.length _ c2 c1;have D:E.P.cellsOf e=ie.size:=by simp[Program.cellsOf,y.ti _ _ C]
   have G:(⟨t1,A.next⟩:AH).t.get B=some (.gro els tl e):=by show t1.get B=_;rw[Hl b,C' a];exact Y
   obtain⟨R2,X2⟩:=s7 R1 G (p:=r.1) (by rw[J,HO];exact I) Q O (by rw[D];exact M) L z;obtain⟨l,R3,X3⟩:=H u w R2;exact⟨l,R3,X1.trans (X2.trans X3)⟩;exact h.elim
  exact h.elim;exact⟨A,h,fun σ w R=>⟨σ,R,Ext.refl _ _ _⟩⟩;exact⟨A,h,fun σ w R=>⟨σ,R,Ext.refl _ _ _⟩⟩
def Av(tab:Tab)(inl:Inl)(E:Env)(A:AH)(g:FuncId)(args:Lh)(K:KV):Prop:=
 match E.fn g with
 | some fn=>(match pn tab g with
   |some x=>(match x args A with|some r=>pc r.1 (K r.2.1 r.2.2)|none=>Stop (g,args))
   |none=>inl fn args A K)
 | none=>(match E.ext g with
   |some x=>(match x args A with|some r=>K r.1 r.2|none=>Stop (g,args))
   |none=>Stop (g,args))
def uy(tab:Tab)(inl:Inl)(E:Env)(A:AH)(ρ:Operand->Lj)(op:Op)(K:KV):Prop:=
 match effA E A ρ op with
 |some r=>K r.1 r.2
 | none=>(match iN E ρ op with
   |some r=>Av tab inl E A r.1 r.2 K
   |none=>Stop (op,A))
def appT (E : Env)(A:AH)(ts:List TypeId)(b:Value)(s:ByteArray):Option (Ll×Value×AH):=
 match ts with
 | [t, tx] => (match und E t,und E tx with
   | some (.slice e),some .string=>(match E.ti e with
     | some ie=>(match ie.zero with
       | some z=>bif Nat.beq ie.size 1&&Nat.beq z.cells.toList.length 1 then
        (match b with
        | .slice none sl sk=>bif Nat.beq sl 0&&Nat.beq sk 0 then
         (match cO A (.cells (s.data.toList.map λb=>.int .u8 b.toNat) e)with
         |some A'=>some (some (s.size<=70368744177664/\s.size*ie.bytes<=140737488355328),.slice (some ⟨A.next,0,none⟩) s.size unk,A')
         |none=>none)else none
        | .slice (some ⟨B,o,none⟩) sl sk=>bif Nat.beq sk unk then
         (match A.t.get B with
         | some (.cells c eb)=>bif Nat.beq eb e then
           (match T.set FU A.t B .dead with
           | some t'=>(match T.set FU t' A.next (.cells (c.take (sl*ie.size)++s.data.toList.map λb=>.int .u8 b.toNat) e)with
             |some t''=>some (some (sl+s.size<=70368744177664/\(sl+s.size)*ie.bytes<=140737488355328/\sl*ie.size<=c.length),.slice (some ⟨A.next,0,none⟩) (sl+s.size) unk,⟨t'',A.next+1⟩)
             |none=>none)
           |none=>none)else none
         |_=>none)else none
        |_=>none)else none
       |none=>none)
     |none=>none)
   |_,_=>none)
 |_=>none
theorem Gd{b:Value}(h:appT E A ts b s=some (p,v,A')):
    (Nat.beq s.size 0=true->fj E A ts b (.string s)=some (b,A))/\(Nat.beq s.size 0=false->PH p->fj E A ts b (.string s)=some (v,A')):=by
  unfold appT at h;split at h;rename_i t tx;split at h;rename_i e C y;split at h;rename_i ie g;split at h;rename_i z u;cases D:Nat.beq ie.size 1&&Nat.beq z.cells.toList.length 1;rw[D]at h;cases h;rw[D]at h;simp only[D']at h;simp only[f']at D;obtain⟨j,S⟩:=D;have r:Nat.beq z.cells.toList.length ie.size=true:=by rw[GG]at j S ⊢;omega
  have q:Nat.blt 0 ie.size=true:=by rw[GG]at j;rw[HN];omega
  have l:cM .string=true:=rfl;split at h;rename_i sl G;cases a:Nat.beq sl 0&&Nat.beq G 0;rw[a]at h;cases h;rw[a]at h;simp only[D']at h;split at h;rename_i A1 V;cases h;refine⟨λi=>?_,λi J=>?_⟩;simp only[fj,eE,C,y,g,u,srcA,j,r,q,l,a,i,HJ,D'];obtain⟨M,L⟩:s.size<=70368744177664/\s.size*ie.bytes<=140737488355328:=J;have Q:Nat.ble s.size 70368744177664=true:=by rw[GI];exact M
  have O:Nat.ble (s.size*ie.bytes) 140737488355328=true:=by rw[GI];exact L
  simp only[fj,eE,C,y,g,u,srcA,j,r,q,l,a,i,Q,O,V,HJ,D',GN];cases h;rename_i B o sl G;cases a:Nat.beq G unk;rw[a]at h;cases h;rw[a]at h;obtain rfl:=Gt a;simp only[D']at h;have R:isG unk=false:=by decide
  split at h;rename_i c Y U;cases K:Nat.beq Y e;rw[K]at h;cases h;rw[K]at h;simp only[D']at h;split at h;rename_i t1 I;split at h;rename_i t2 H;cases h;have e3:Nat.ble unk unk=true:=by decide
  have e4:Nat.blt unk unk=false:=by decide
  refine⟨λi=>?_,λi J=>?_⟩;simp only[fj,R,eE,C,y,g,u,srcA,j,r,q,l,i,e3,HJ,Bool.true_or,D'];obtain⟨M,L,X⟩:sl+s.size<=70368744177664/\(sl+s.size)*ie.bytes<=140737488355328/\sl*ie.size<=c.length:=J;have Q:Nat.ble (sl+s.size) 70368744177664=true:=by rw[GI];exact M
  have O:Nat.ble ((sl+s.size)*ie.bytes) 140737488355328=true:=by rw[GI];exact L
  have Z:Nat.ble (sl*ie.size) c.length=true:=by rw[GI];exact X
  simp only[fj,R,eE,C,y,g,u,srcA,j,r,q,l,i,Q,O,e4,Z,a,U,K,I,H,HJ,D',GN];cases h;cases h;cases h;cases h;cases h;cases h;cases h;cases h
def sxT (E:Env)(el:El)(A:AH)(ρ:Operand->Lj)(op:Op):Option (ByteArray×Value×(Ll×Value×AH)):=
 match op with
 | .call c=>(match c.callee with
   | .builtin .append=>(match el.app,c.args.toList with
     | true,[x,y]=>(match ρ x,ρ y with
       |some b,some (.string s)=>(match appT E A c.argTypes.toList b s with|some r=>some (s,b,r)|none=>none)
       |_,_=>none)
     |_,_=>none)
   |_=>none)
 |_=>none
theorem sxT_ok{C:El}{i:Op}{b:Value}{r:Ll×Value×AH}(h:sxT E C A ρ i=some (s,b,r)):
 (Nat.beq s.size 0=true->effA E A ρ i=some (b,A))/\(Nat.beq s.size 0=false->PH r.1->effA E A ρ i=some (r.2.1,r.2.2)):=by unfold sxT at h;split at h;rename_i c;split at h;rename_i z;split at h;rename_i x y j a;split at h;rename_i G D q l;split at h;rename_i g u;simp only[osI,Gx]at h;obtain⟨rfl,rfl,rfl⟩:=h;have:=Gd (p:=g.1) (v:=g.2.1) (A':=g.2.2) u;simp only[effA,z,effB,a,q,l];exact this;cases h;cases h;cases h;cases h;cases h
def sxEff(tab:Tab)(inl:Inl)(E:Env)(el:El)(A:AH)(ρ:Operand->Lj)(op:Op)(K:KV):Prop:=
 match sxT E el A ρ op with
 |some r=>Sp (Nat.beq r.1.size 0) (K r.2.1 A) (pc r.2.2.1 (K r.2.2.2.1 r.2.2.2.2))
 | none=>(match sxG1 E el A ρ op with
   |some r=>pc r.1 (K r.2.1 r.2.2)
   |none=>uy tab inl E A ρ op K)
def sxMk (E:Env)(el:El)(A:AH)(ρ:Operand->Lj)(op:Op):Option (Ll×Value×AH):=
 match op with
 | .makeSlice t l c=>(match und E t with
   | some (.slice e)=>(match el.gm e with
     | true=>(match ρ l,ρ c,E.ti e with
       | some (.int _ l),some (.int _ c),some ie=>(match ie.zero with
         | some z=>bif z.cells.toList.all scal&&(Nat.beq z.cells.toList.length ie.size&&Nat.blt 0 ie.size)then
          (match T.set FU A.t A.next (.gro (List.replicate l.toNat z) [] e)with
          |some t=>some (some (0<=l/\l<=c/\c<=281474976710656/\ie.bytes*c.toNat<=281474976710656),.slice (some ⟨A.next,0,none⟩) l.toNat (unk+3+ie.size),⟨t,A.next+1⟩)
          |none=>none)else none
         |none=>none)
       |_,_,_=>none)
     |false=>none)
   |_=>none)
 |_=>none
theorem eH(z:Value):∀ n:Nat,an (List.replicate n z)=rep z.cells.toList n
 |0=>rfl
 |n+1=>by rw[IC,aV,eH z n];rfl
theorem Cf(ok:E.Ok){el:El}(R:Rel E.P σ A w){o:Oper}{a:Act}(M:OpR σ ρ a.eval)(h:sxMk E el A ρ o.op=some (p,v,A'))(hp:PH p):Does E σ A w o a v A':=by
 unfold sxMk at h;split at h;rename_i t l c S;split at h;rename_i e hu;split at h;split at h;rename_i k1 l0 k2 b ie hl hc G;split at h;rename_i z hz;cases r:(z.cells.toList.all scal&&(Nat.beq z.cells.toList.length ie.size&&Nat.blt 0 ie.size));rw[r]at h;simp at h;rw[r]at h;simp only[D']at h;split at h;rename_i t2 ht;cases h;obtain⟨q1,q2,q3,q4⟩:0<=l0/\l0<=b/\b<=281474976710656/\ie.bytes*b.toNat<=281474976710656:=hp;simp only[f']at r;have e4:Nat.ble (ie.bytes*b.toNat) 281474976710656=true:=by rw[GI];exact q4
 have J:bZ E ρ o.op=some (.cells (rep z.cells.toList b.toNat) e,λid=>.slice (some ⟨id,0,none⟩) l0.toNat b.toNat):=by rw[S];simp only[bZ,hu,hl,hc,G,hz,r.1,r.2.1,r.2.2,q1,q2,q3,e4,HX,HJ,D']
 obtain⟨a2,K,h1,h2,h3,h4⟩:=ny ok M J;have H:σ A.next=none:=R.fresh _ (GE _)
 have D:=cj (x:=(w.heap.size,0,b.toNat)) H;obtain⟨Z,lo,hi,g1,g2,Y,g4,g5⟩:=h2 _ D;obtain rfl:=Hf g1;have L:=h3 (upd σ A.next (w.heap.size,0,b.toNat)) A.next w.heap.size b.toNat bG
 have j:=h1 w;have hy:K w.heap.size=.slice (some ⟨w.heap.size,0,none⟩) l0.toNat b.toNat:=by
  have U:b.toNat<unk:=by unfold unk;omega
  clear j h1 h3 g1 g2 Y g4 g5 h2 J q4 e4;generalize l0.toNat=ln at L ⊢;generalize b.toNat=cn at L U ⊢;generalize K w.heap.size=y at L ⊢;cases L with
  | slice _ _ _ q _=>
   have q:upd σ A.next (w.heap.size,0,cn) A.next=_:=q
   rw[bG]at q;cases q;rfl
  |sliceU _ _ _=>omega
  |sliceV _ _ _ _ _=>omega
  |sliceE=>omega
  |gs0 _ _ _ _ hm=>omega
  |gs _ _ _ _ _ _ _ _ _ hm=>omega
 rw[hy]at j;have g:z.cells.toList.length=ie.size:=Gt r.2.1;have I:E.P.cellsOf e=ie.size:=by simp[Program.cellsOf,ok.ti _ _ G]
 have O:∀ x∈List.replicate l0.toNat z,x.cells.size=E.P.cellsOf e:=λx hx=>by rw[I,(If.1 hx).2];simpa using g
 have Q:=dL z.cells.toList b.toNat;rw[g]at Q;have a1:b.toNat*ie.size<=Z.size:=by by_cases h0:b.toNat*ie.size=0;omega;obtain⟨u,k1,_⟩:=Y (b.toNat*ie.size-1) _ (Gq (by omega));have:=(IG.1 k1).1;omega
 have a3:l0.toNat*ie.size<=b.toNat*ie.size:=Hn _ (by omega);have a0:0<ie.size:=by simpa using r.2.2
 refine aT (Good.value j ?_ (R.alloc (cp:=b.toNat) ht H (It _) (IR _) ⟨Z,lo,hi,rfl,g2,λi v C=>?_,by rw[GA];exact O,by rw[I];omega,by simp;omega⟩ rfl) (Ext.alloc R ht (IR _) (ob:=.cells Z e (lo,hi)) rfl rfl rfl rfl));exact .gs 0 0 _ _ _ bG (by omega) (by omega) (by omega) (by omega);rw[GA,eH]at C;have V:i<l0.toNat*ie.size:=by have:=(Gw.1 C).1;rwa[dL,g]at this
 have X:(rep z.cells.toList b.toNat)[i]? =some v:=by rw[lW z.cells.toList (by omega) _ _ (by rw[g];omega),<-lW z.cells.toList (by omega) l0.toNat i (by rw[g];exact V)];exact C
 exact Y i v X;cases h;cases h;cases h;cases h;cases h;cases h
def sxBy(E:Env)(el:El)(A:AH)(ρ:Operand->Lj)(op:Op):Option (Ll×Value×AH):=
 match op with
 | .convert s d x=>(match ρ x with
   |some (.string b)=>none
   | some (.slice (some ⟨B,o,none⟩) n k)=>(match isG k,und E s,und E d,A.t.get B with
     | true,some (.slice e),some .string,some (.gro els tl eb)=>(match und E e,E.ti eb with
       |some (.int .u8),some ie=>bif Nat.beq ie.size 1&&Nat.beq (gsz k) 1 then some (some (IsB (glue els tl) o n),.string (aw (u8L (glue els tl) o n)),A)else none
       |_,_=>none)
     |_,_,_,_=>none)
   |_=>none)
 |_=>none
theorem Ch(l:E.Ok){el:El}(R:Rel E.P σ A w){o:Oper}{a:Act}(H:OpR σ ρ a.eval)(h:sxBy E el A ρ o.op=some (p,v,A'))(hp:PH p):Does E σ A w o a v A':=by
 unfold sxBy at h;split at h;rename_i s d x C;split at h;rename_i b V;cases h;rename_i B y n k V;split at h;rename_i e els tl eb hg J hd hB;split at h;rename_i ie L K;cases D:Nat.beq ie.size 1&&Nat.beq (gsz k) 1;rw[D]at h;cases h;rw[D]at h;simp only[D',osI,Gx]at h;obtain⟨rfl,rfl,rfl⟩:=h;simp only[f',GG]at D;obtain⟨i,q1,q2,q3⟩:=v5 hp;rw[q3];have M:E.P.cellsOf eb=1:=by simp[Program.cellsOf,l.ti _ _ K,D.1]
 rcases cb (H x _ V) hg with⟨e0,ad,S⟩|⟨b,dd,c,lo,U,G,S,a0,hc,eo⟩;have O:i=[]:=GY (by omega);subst O;refine aT (Good.value (v':=.string ByteArray.empty) (w':=w) ?_ ?_ R (Ext.refl _ _ _));unfold execOp;rw[C];have:(convert s d (.slice ad 0 0)).run E.P w=.ok (.string ByteArray.empty) w:=by
  cases ad with
  |none=>simp[convert,ai l J,ai l hd,ai l L,Conv.bytesToString]
  |some a'=>simp only[convert,GH,ai l J,ai l hd,GC,ai l L];have:=JB (P:=E.P) w a' 0 0 [] (by simp[loadCells,loadCellsFrom]);simpa using this
 simp[S,this];have:ByteArray.empty=aw []:=by apply H5;rfl
 rw [this];exact .string _;obtain⟨c',l0,h0,g1,g2,Z,Q,g5,g6⟩:=R.at hB rfl G;rw[M]at Q;rw[<-b7]at Z Q;have u:∀ j z,(i.map λb=>Value.int .u8 (b.toNat:Int))[j]? =some z->w.cell? ((⟨b,dd+y,none⟩:Addr).add j)=some z:=λj z r=>by
  have hj:j<n:=by have:=(Gw.1 r).1;simp at this;omega
  have h1:(glue els tl)[y+j]? =some z:=by rw[<-q1,GW,E' hj,GV]at r;exact r
  have Y:(an (glue els tl))[(y+j)*1+0]? =z.cells.toList[0]?:=o4 Q h1 0 (by decide);rw[Jm,GP]at Y;have I:∃ q:UInt8,z=.int .u8 (q.toNat:Int):=by
   rw[GQ]at r;cases X:i[j]? with
   |none=>rw[X]at r;cases r
   |some q=>rw[X]at r;exact⟨q,(Hf r).symm⟩
  obtain⟨q,rfl⟩:=I;obtain⟨z',k1,k2⟩:=Z (y+j) _ Y;cases k2;rw[aQ];simp only[World.cell?,g1,IJ,HG,HL];rw[Ho];exact k1
 have g:=I0 (P:=E.P) w ⟨b,dd+y,none⟩ (i.map λb=>Value.int .u8 (b.toNat:Int)) u;rw[Gu,q2]at g;refine aT (Good.value (v':=.string (aw i)) (w':=w) ?_ (.string _) R (Ext.refl _ _ _));unfold execOp;rw[C];have e1:(i.map λb=>Value.int .u8 (b.toNat:Int))=(i.map λb=>(b.toNat:Int)).map (Value.int .u8):=by rw[Hp];rfl
 rw [e1]at g;have:(convert s d (.slice (some ⟨b,dd+y,none⟩) n U)).run E.P w=.ok (.string (aw i)) w:=by
  simp only[convert,GH,ai l J,ai l hd,GC,ai l L];rw[JB (P:=E.P) w _ n U _ g,ip,Hp];have e2:i.map ((λn:Int=>UInt8.ofNat n.toNat)∘λb:UInt8=>(b.toNat:Int))=i:=by
   conv=>rhs;rw[<-HZ i]
   exact GT λq _=>by simp
  rw[e2];rfl
 simp[S,this];cases h;cases h;cases h;cases h
def pZ (E:Env)(A:AH)(ts:List TypeId)(B o n m:Nat):Option (Ll×Value×AH):=
 match ts with
 | t :: _=>(match und E t with
   | some (.slice e)=>(match E.ti e,A.t.get B with
     | some ie,some (.gro els tl eb)=>(match ie.zero with
       | some z=>bif (Nat.beq eb e&&(Nat.beq (gsz m) ie.size&&isG m))&&((z.cells.toList.all cellv&&z.cells.toList.all scal)&&(Nat.beq z.cells.toList.length ie.size&&Nat.blt 0 ie.size))then
        (match T.set FU A.t B (.gro (splc (glue els tl) (gLo ie.size o) (List.replicate n z)) [] eb)with
        |some t'=>some (some (gLo ie.size o+n<=(glue els tl).length),undef,⟨t',A.next⟩)
        |none=>none)else none
       |none=>none)
     |_,_=>none)
   |_=>none)
 |_=>none
theorem lz(z:Value):∀ n:Nat,an (List.replicate n z)=rep z.cells.toList n
 |0=>rfl
 |n+1=>by rw[IC,aV,lz z n];rfl
theorem nX{z:Lh}(h:z.all cellv=true):∀ n,(rep z n).all cellv=true
 |0=>rfl
 |n+1=>by simp only[rep,List.all_append,h,nX h n];rfl
theorem tM(O:E.Ok)(R:Rel E.P σ A w){ts:Array TypeId}{x':Value}{as:Array Value}(G:as[0]? =some x')(a:VR σ (.slice (some ⟨B,o,none⟩) n m) x')(h:pZ E A ts.toList B o n m=some (p,v,A'))(hp:PH p):
 ∃w',(Builtin.clear_ ts ty as).run E.P w=.ok (.tuple #[]) w'/\v=undef/\Rel E.P σ A' w'/\Ext σ A w σ A' w':=by
 unfold pZ at h;split at h;rename_i t a0 U;have L:=j6 U;split at h;rename_i e hu;split at h;rename_i ie i r eb M hB;split at h;rename_i z hz;cases Q:(Nat.beq eb e&&(Nat.beq (gsz m) ie.size&&isG m))&&((z.cells.toList.all cellv&&z.cells.toList.all scal)&&(Nat.beq z.cells.toList.length ie.size&&Nat.blt 0 ie.size));rw[Q]at h;cases h;rw[Q]at h;simp only[D']at h;simp only[f',GG,HN]at Q;obtain⟨⟨rfl,Y,hg⟩,⟨Z,V⟩,u,l⟩:=Q;split at h;rename_i t' H;cases h;have g:gLo ie.size o+n<=(glue i r).length:=hp;rw[b7]at g H;have C:E.P.cellsOf eb=ie.size:=by simp[Program.cellsOf,O.ti _ _ M]
 by_cases y:n=0;subst y;have e0:splc (i++r) (gLo ie.size o) (List.replicate 0 z)=i++r:=by simp[splc]
 rw[e0]at H;obtain⟨xa,xk,rfl⟩:=ox a;obtain⟨R2,X2⟩:=R.retell hB H rfl rfl rfl λb d c X=>by obtain⟨c',J,hi,g1,g2,g3,I,g5,g6⟩:=X;exact⟨c',J,hi,g1,g2,by rw[GA];exact g3,by rw[GA];exact I,g5,by rw[GA];exact g6⟩
 refine⟨w,?_,rfl,R2,X2⟩;cases xa<;>simp[Builtin.clear_,L,G,ai O hu];rcases cb a hg with⟨rfl,_⟩|⟨b,d,c,J,kc,K,rfl,hn,hc,rfl⟩;exact absurd rfl y;rw[Y]at G g H;rw[k8 l]at g H;obtain⟨ca,l0,h0,g1,g2,g3,I,g5,g6⟩:=R.at hB rfl K;have q:∀ x∈List.replicate n z,x.cells.size=E.P.cellsOf eb:=λx a=>by rw[C,(If.1 a).2];simpa using u
 have j:=lz z n;have D:(an (List.replicate n z)).length=n*ie.size:=by rw[j,dL,u]
 obtain⟨w',r1,r2,r3⟩:=wq R hB K (vs:=an (List.replicate n z)) (vs':=an (List.replicate n z)) (off:=J*ie.size) (br (by rw[j];exact jK V n) σ) (by rw[j];exact nX Z n) (by
  rw[D,av I,C,<-HY];exact Hn _ g) (by
  have:=qt (lo:=J) I q;rw[C]at this;exact this) (λx a=>by
  unfold splc at a;rcases GS.1 a with a|a;exact I x (H6 a);rcases GS.1 a with a|a;exact q x a;exact I x (H7 a)) (pp (by rw[Hi];exact g)) H
 refine⟨w',?_,rfl,r2,r3⟩;rw[j]at r1;have S:(Builtin.zeroCells z.cells n).toList=rep z.cells.toList n:=by have:=gq z.cells n (.inl (by rw[<-Ib,u];exact l));unfold Builtin.zeroCells;rw[this]
 cases n with
 |zero=>exact absurd rfl y
 |succ n=>simp[Builtin.clear_,L,G,ai O hu,fq O M hz,S,r1]
 cases h;cases h;cases h;cases h;cases h
def sxXt (E:Env)(A:AH)(ρ:Operand->Lj)(op:Op):Option (Ll×Value×AH):=
 match op with
 | .call c=>(match c.callee with
   | .builtin .clear=>(match c.args.toList with
     | [x]=>(match ρ x with
       | some (.slice (some ⟨B,o,none⟩) n m)=>(match isG m with
         |true=>pZ E A c.argTypes.toList B o n m
         |false=>none)
       |_=>none)
     |_=>none)
   |_=>none)
 | .binOp .eql t x y _=>(match ρ x,ρ y,und E t with
   | some (.slice (some ⟨_,_,none⟩) n m),some (.slice none 0 0),some (.slice _)=>(match isG m with
     |true=>some (some (0<n),.bool false,A)
     |false=>none)
   |_,_,_=>none)
 |_=>none
theorem B9(C:E.Ok)(R:Rel E.P σ A w){o:Oper}{a:Act}(g:OpR σ ρ a.eval)(h:sxXt E A ρ o.op=some (p,v,A'))(u:PH p):Does E σ A w o a v A':=by
 unfold sxXt at h;split at h;rename_i c i;split at h;rename_i O;split at h;rename_i x j;split at h;rename_i B D n m q;split at h;obtain⟨l,J,rfl,I,H⟩:=tM C R (ty:=o.type) (as:= #[a.eval x]) rfl (g x _ q) h u;refine aT (Good.value (v':=.tuple #[]) (w':=l) ?_ (cA σ) I H);unfold execOp;rw[i];simp only[resolve,O,GH,Hx,GC,invoke];rw[vn j a.eval];simp[builtin,J];cases h;cases h;cases h;cases h;rename_i t x y U i;split at h;rename_i B D n m X q K L;split at h;rename_i M;cases h;have u:0<n:=u;have Q:a.eval y=.slice none 0 0:=by have:=g y _ K;generalize a.eval y=z at this;cases this;rfl
 rcases cb (g x _ q) M with⟨rfl,_⟩|⟨b,d,c,V,k,_,S,_,_,_⟩;omega;refine aT (Good.value (v':=.bool false) (w':=w) ?_ (.bool _) R (Ext.refl _ _ _));unfold execOp;rw[i];have G:(do eqGuard .eql t x y (a.eval x) (a.eval y);binOp .eql t (a.eval x) (a.eval y)).run E.P w=.ok (.bool false) w:=by rw[S,Q];exact(fh (P:=E.P) (t:=t) (a:=.slice (some ⟨b,d+D,none⟩) n k) (b:=.slice none 0 0) (x:=x) (y:=y) (r:=false) (w:=w) (by unfold Op.equal Op.maxDepth;rw[show(10000:Nat)=9999+1 from rfl];unfold Op.equalIn;rw[GH,ai C L,GC];rfl) rfl rfl rfl rfl).1
 simp only[GH]at G ⊢;rw[G];rfl;cases h;cases h;cases h
def sxOp (tab:Tab)(inl:Inl)(E:Env)(el:El)(A:AH)(ρ:Operand->Lj)(ty:TypeId)(op:Op)(K:KV):Prop:=
 match sxQ E el A ρ ty op with
 |some r=>pc r.1 (K r.2 A)
 | none =>(match sxMk E el A ρ op with
   |some r=>pc r.1 (K r.2.1 r.2.2)
   | none =>(match sxBy E el A ρ op with
     |some r=>pc r.1 (K r.2.1 r.2.2)
     | none=>(match sxXt E A ρ op with
       |some r=>pc r.1 (K r.2.1 r.2.2)
       | none=>(match bZ E ρ op with
         |some r=>(match cO A r.1 with|some A'=>K (r.2 A.next) A'|none=>False)
         |none=>sxEff tab inl E el A ρ op K))))
def sxOps(tab:Tab)(inl:Inl)(E:Env)(el:El)(ops:List Oper)(n:Nat)(l:List Oper):T Value->AH->KF->Prop:=
 List.rec (motive:=λ_=>T Value->AH->KF->Prop) (λF A K=>K F A)
  (λo _ ih F A K=>sxG ops F o (λF=>sxOp tab inl E el A (ev E F) o.type o.op (λv A'=>foK (el.fo o.dst) v A' (λv2 A2=>putK n F o.dst v2 (λF'=>nilK E (el.hk o.dst) F' A2 (λF2 A3=>ih F2 A3 K))))) (λF=>putK n F o.dst undef (λF'=>ih F' A K))) l
def xZ(E:Env)(inl:Inl):Prop:=∀ g fn,E.fn g=some fn->∀ args A K,inl fn args A K->∀ σ w args',Rel E.P σ A w->Glob E σ->VRs σ args args'->
 Calls E.P g ⟨args'⟩ w (λe w'=>∃ v A' v' σ',e=.returned v'/\K v A'/\VR σ' v v'/\Rel E.P σ' A' w'/\Ext σ A w σ' A' w')
def DoesK(E:Env)(σ:Sig)(A:AH)(w:World)(o:Oper)(a:Act)(K:KV):Prop:=
 ∀(K1:Act->World->Prop) (Q:Exit->Act->World->Prop),(∀v A' v' w' σ',K v A'->VR σ' v v'->Rel E.P σ' A' w'->Ext σ A w σ' A' w'->K1 (a.put o.dst v') w')->o.wp E.P a w K1 Q
theorem DoesK.of{o:Oper}{a:Act}{K:KV}(h:Does E σ A w o a v A')(k:K v A'):DoesK E σ A w o a K:=
 λr Q i=>h r Q λv' g b q l j=>i v A' v' g b k q l j
theorem Ce(q:E.Ok)(hs:E.sym=true){C:Tab}(I:TabOk E C){inl:Inl}(hi:xZ E inl){el:El}(R:Rel E.P σ A w)(hg:Glob E σ){o:Oper}{a:Act}(j:OpR σ ρ a.eval){K:KV}
 (h:sxOp C inl E el A ρ o.type o.op K):DoesK E σ A w o a K:=by
 unfold sxOp at h;split at h;rename_i r l;obtain⟨u,k⟩:=dh h;exact .of (lj q R j (ut hs l u)) k;split at h;rename_i r l;obtain⟨u,k⟩:=dh h;exact .of (Cf q R j (p:=r.1) (v:=r.2.1) (A':=r.2.2) l u) k;split at h;rename_i r l;obtain⟨u,k⟩:=dh h;exact .of (Ch q R j (p:=r.1) (v:=r.2.1) (A':=r.2.2) l u) k;split at h;rename_i r l;obtain⟨u,k⟩:=dh h;exact .of (B9 q R j (p:=r.1) (v:=r.2.1) (A':=r.2.2) l u) k;split at h;rename_i r l;split at h;rename_i A' hn;exact .of (lk q R j (ob:=r.1) (fv:=r.2) l hn) h;exact h.elim;suffices key:∀ K,uy C inl E A ρ o.op K->DoesK E σ A w o a K by unfold sxEff at h;split at h;rename_i r l;have I:=sxT_ok (s:=r.1) (b:=r.2.1) (r:=r.2.2) l;rcases Sp.cases h with⟨L,k⟩|⟨L,k⟩;exact .of (aT (oR q R j (I.1 L))) k;obtain⟨u,k⟩:=dh k;exact .of (aT (oR q R j (I.2 L u))) k;split at h;rename_i r l;obtain⟨u,k⟩:=dh h;exact .of (aT (oR q R j (uv (p:=r.1) (v:=r.2.1) (A':=r.2.2) l u))) k;exact key _ h
 clear h;intro K h;unfold uy at h;split at h;rename_i r l;exact .of (aT (oR q R j l)) h;split at h;rename_i r O;obtain⟨i,U,y⟩:=sv q j (g:=r.1) (args:=r.2) O;unfold Av at h;split at h;rename_i fn G;have a0:∀ Q1:Ending->World->Prop,True:=λ_=>trivial;split at h;rename_i x M;split at h;rename_i H D;obtain⟨u,k⟩:=dh h;intro K1 Q V;unfold Oper.wp;rw[y,dF q G];show Calls E.P r.1 ⟨i⟩ w _;refine(I.get M r.2 A H.1 H.2.1 H.2.2 D u σ w i R hg U).mono λe J S=>?_;obtain⟨v',z,rfl,Z,Y,X⟩:=S;exact V _ _ v' J z k Z Y X;exact h.elim;intro K1 Q V;unfold Oper.wp;rw[y,dF q G];show Calls E.P r.1 ⟨i⟩ w _;refine(hi r.1 fn G r.2 A K h σ w i R hg U).mono λe J S=>?_;obtain⟨v,A',v',z,rfl,k,Z,Y,X⟩:=S;exact V _ _ v' J z k Z Y X;split at h;rename_i x M;split at h;rename_i H D;refine .of (aT ?_) h;rw[y];exact q.ext r.1 x r.2 A H.1 H.2 M D σ w i R U;exact h.elim;exact h.elim;exact h.elim
theorem eV{a:Option Tmp}{k:T Value->Prop}(h:putK n F a v k):∃ b,put n F a v=some b/\k b:=by unfold putK at h;split at h;rename_i b g;exact⟨b,g,h⟩;exact h.elim
theorem lP{E:Env}(C:E.Ok)(O:E.sym=true){b:Tab}(M:TabOk E b){inl:Inl}(D:xZ E inl){u:El}{ops:Array Oper}{n:Nat}{Q:Exit->Act->World->Prop}:∀ (l:List Oper) (k:Nat) (F:T Value) (A:AH) (σ:Sig) (a:Act) (w:World) (K:KF),
 sxOps b inl E u ops.toList n l F A K->(∀(i:Nat),i<l.length->ops[k+i]? =l[i]?)->Rel E.P σ A w->Glob E σ->FR σ F n a->
 (∀y A' a' w' σ',K y A'->FR σ' y n a'->Rel E.P σ' A' w'->Ext σ A w σ' A' w'->Q .normal a' w')->wpOps E.P ops Q (List.range' k l.length) a w
 | [],k,F,A,σ,a,w,K,h,_,R,hg,hF,hQ=>hQ F A a w σ h hF R (Ext.refl _ _ _)
 | o::rest,k,F,A,σ,a,w,K,h,hl,R,hg,hF,hQ=>by
  have h0:ops[k]? =some o:=by have:=hl 0 (by simp);simpa using this
  have hr:∀ (i:Nat),i<rest.length->ops[k+1+i]? =rest[i]?:=λi D=>by have:=hl (i+1) (by simp;omega);rw[show k+1+i=k+(i+1)by omega,this];simp
  rw[GR,I9,wpOps_cons];unfold wpOp;simp only[h0];have h:sxG ops.toList F o (λF=>sxOp b inl E u A (ev E F) o.type o.op (λv A'=>foK (u.fo o.dst) v A' (λv2 Z=>putK n F o.dst v2 (λy=>nilK E (u.hk o.dst) y Z (λz Y=>sxOps b inl E u ops.toList n rest z Y K))))) (λF=>putK n F o.dst undef (λy=>sxOps b inl E u ops.toList n rest y A K)):=h;rcases Au h with⟨J,h⟩|⟨J,h⟩;rw[lH (σ:=σ) (F:=F) (λ_ _ _ d _ _ _=>hF.val d) J];rw[E' rfl];left;refine Ce C O M D R hg (oO hg hF.val) h _ _ λv0 A0 v' w' a0 S X V U=>?_;obtain⟨v,A1,σ',r,h1,h2,G⟩:=foK_ok S X V;have G:=U.trans G;obtain⟨F1,g,r⟩:=eV r;have j:=Ext.sub R G;obtain⟨z,Y,r,L⟩:=mw (E:=E) C (A0:=A1) (n:=n) r;obtain⟨H,g1,g2,g3,g4⟩:=L σ' w' _ w' ⟨σ',me (hF.mono j) h1 g,h2,hg.sub j,Ext.refl _ _ _⟩;exact lP C O M D rest (k+1) z Y H _ w' K r hr g2 g3 g1 λz Z a2 w2 I q k1 k2 k3=>hQ z Z a2 w2 I q k1 k2 (G.trans (g4.trans k3));rw[lH (σ:=σ) (F:=F) (λ_ _ _ d _ _ _=>hF.val d) J];rw[C' (by simp)];obtain⟨F1,g,r⟩:=eV h;exact lP C O M D rest (k+1) F1 A σ _ w K r hr R hg (me hF (cA σ) g) hQ
theorem W.sxOps(G:E.Ok)(I:E.sym=true){b:Tab}(H:TabOk E b){inl:Inl}(q:xZ E inl){O:El}{Q:Post}{id:Nat}{ops:Array Oper}
 (h:AM.sxOps b inl E O ops.toList n ops.toList F A (Q .normal)):W E A0 n (.region id ops false) Q F A:=by intro y V a w j S K;obtain⟨σ,M,u,r,L⟩:=j;refine wp_region ?_;have:=lP G I H q (Q:=S) ops.toList 0 F A σ a w _ h (λi q=>by simp) u r M (λU A' R z g J D C l=>K .normal U A' R z J ⟨g,D,C,r.sub (Ext.sub u l),L.trans l⟩);rw[Iw];simpa using this
def po (tab:Tab)(E:Env)(A:AH)(ρ:Operand->Lj)(op:Op)(K:KV):Prop:=
 match effA E A ρ op with
 |some r=>K r.1 r.2
 | none =>(match iN E ρ op with
   | some r=>(match E.fn r.1 with
     | some _=>(match pn tab r.1 with
       |some x=>(match x r.2 A with|some r=>pc r.1 (K r.2.1 r.2.2)|none=>Stop r)
       |none=>Stop r)
     | none=>(match E.ext r.1 with
       |some x=>(match x r.2 A with|some r=>K r.1 r.2|none=>Stop r)
       |none=>Stop r))
   |none=>Stop (op,A))
theorem sY{g:Tab}{u:Op}{K:KV}(h:po g E A ρ u K):∃ v A',c8 (ud g) E A ρ u=some (v,A')/\K v A':=by unfold po at h;unfold c8;split at h;rename_i r l;rw[l];exact⟨_,_,rfl,h⟩;rename_i l;rw[l];simp only;split at h;rename_i r q;rw[q];simp only;split at h;rename_i fn b;rw[b];simp only;split at h;rename_i x j;split at h;rename_i i a;obtain⟨y,k⟩:=dh h;refine⟨i.2.1,i.2.2,?_,k⟩;obtain⟨p,v,A'⟩:=i;unfold ud;rw[j];simp only[a];rw[E' y];exact h.elim;exact h.elim;rename_i b;rw[b];simp only;split at h;rename_i x j;rw[j];simp only;split at h;rename_i i a;exact⟨_,_,a,h⟩;exact h.elim;exact h.elim;exact h.elim
def ux(tab:Tab)(E:Env)(el:El)(A:AH)(ρ:Operand->Lj)(op:Op)(K:KV):Prop:=
 match sxG1 E el A ρ op with
 |some r=>pc r.1 (K r.2.1 r.2.2)
 |none=>po tab E A ρ op K
theorem uw{a:Tab}{j:El}{b:Op}{K:KV}(h:ux a E j A ρ b K):∃ v A',c8 (ud a) E A ρ b=some (v,A')/\K v A':=by unfold ux at h;split at h;rename_i r g;obtain⟨i,k⟩:=dh h;refine⟨r.2.1,r.2.2,?_,k⟩;unfold c8;rw[uv (p:=r.1) (v:=r.2.1) (A':=r.2.2) g i];exact sY h
def qcK(E:Env)(el:El)(als:List Al)(G:AH)(q:Qu)(K:Prop):Prop:=
 match b8 q.m als G with
 |some H=>(match sxQ E el H (rho E q.F (bH q.o.op)) q.o.type q.o.op with|some r=>pc r.1 (r.2=q.v/\K)|none=>False)
 |none=>False
theorem AF(b:E.sym=true){l:El}{a:List Al}{G:AH}{q:Qu}{K:Prop}(h:qcK E l a G q K):QC E a G q/\K:=by unfold qcK at h;split at h;rename_i H j;split at h;rename_i r g;obtain⟨i,e,k⟩:=dh h;exact⟨⟨H,j,by rw[<-e];exact ut b g i⟩,k⟩;exact h.elim;exact h.elim
def qsK(E:Env)(el:El)(als:List Al)(G:AH)(m:Nat)(qs:List Qu)(K:Prop):Prop:=
 List.rec (motive:=λ_=>Prop) K (λq _ ih=>bif m.testBit q.i then ih else qcK E el als G q ih) qs
theorem vc{E:Env}(g:E.sym=true){b:El}{a:List Al}{G:AH}{m:Nat}{K:Prop}:∀ {qs:List Qu},qsK E b a G m qs K->QOk E a G m qs/\K
 | [],h=>⟨.nil,h⟩
 | q::qs,h=>by
  have h:(bif m.testBit q.i then qsK E b a G m qs K else qcK E b a G q (qsK E b a G m qs K)):=h;cases j:m.testBit q.i with
  |true=>rw[j]at h;obtain⟨r,l⟩:=vc g (qs:=qs) h;exact⟨.bit j r,l⟩
  |false=>rw[j]at h;obtain⟨u,h⟩:=AF g h;obtain⟨r,l⟩:=vc g (qs:=qs) h;exact⟨.chk u r,l⟩
def CY(E:Env)(el:El)(als:List Al)(q:Qu)(past:List (Nat×AH))(K:Prop):Prop:=
 List.rec (motive:=λ_=>Prop) K (λx _ ih=>bif q.m.testBit x.1 then K else qcK E el als x.2 q ih) past
theorem rc{E:Env}(i:E.sym=true){g:El}{a:List Al}{q:Qu}{K:Prop}:∀ {past:List (Nat×AH)},CY E g a q past K->POk E a q past/\K
 | [],h=>⟨.nil,h⟩
 | x::past,h=>by
  have h:(bif q.m.testBit x.1 then K else qcK E g a x.2 q (CY E g a q past K)):=h;cases b:q.m.testBit x.1 with
  |true=>rw[b]at h;exact⟨.bit b,h⟩
  |false=>rw[b]at h;obtain⟨r,h⟩:=AF i h;obtain⟨l,j⟩:=rc i (past:=past) h;exact⟨.chk r l,j⟩
def mk(ms:Lg)(i:Nat):Nat:=(nth ms i).getD 0
def sxAl (E:Env)(el:El)(ρ:Operand->Lj)(op:Op):Option (Ll×AObj×(Nat->Value)):=
 match op with
 | .makeSlice t l c=>(match und E t with
   | some (.slice e)=>(match el.gm e with
     | true=>(match ρ l,ρ c,E.ti e with
       | some (.int _ l),some (.int _ c),some ie=>(match ie.zero with
         | some z=>bif z.cells.toList.all scal&&(Nat.beq z.cells.toList.length ie.size&&Nat.blt 0 ie.size)then
          some (some (0<=l/\l<=c/\c<=281474976710656/\ie.bytes*c.toNat<=281474976710656),.cells (rep z.cells.toList c.toNat) e,λid=>.slice (some ⟨id,0,none⟩) l.toNat c.toNat)else none
         |none=>none)
       |_,_,_=>none)
     |false=>none)
   |_=>none)
 |_=>none
theorem Cj{J:El}{i:Op}{r:AObj×(Nat->Value)}(h:sxAl E J ρ i=some (p,r))(G:PH p):bZ E ρ i=some r:=by
 unfold sxAl at h;split at h;rename_i t l c;split at h;rename_i e D;split at h;split at h;rename_i M l0 L b ie H I g;split at h;rename_i z C;cases a:(z.cells.toList.all scal&&(Nat.beq z.cells.toList.length ie.size&&Nat.blt 0 ie.size));rw[a]at h;cases h;rw[a]at h;simp only[D',osI,Gx]at h;obtain⟨rfl,rfl⟩:=h;obtain⟨y,u,q,j⟩:0<=l0/\l0<=b/\b<=281474976710656/\ie.bytes*b.toNat<=281474976710656:=G;simp only[f']at a;have K:Nat.ble (ie.bytes*b.toNat) 281474976710656=true:=by rw[GI];exact j
 simp only[bZ,D,H,I,g,C,a.1,a.2.1,a.2.2,y,u,q,K,HX,HJ,D'];cases h;cases h;cases h;cases h;cases h
def uS (tab:Tab)(E:Env)(el:El)(ms:Lg)(n n0 sz:Nat)(o:Oper)(ih:Nat->RS->(RS->Prop)->Prop)(i:Nat)(F:T Value)(G:AH)(past:List (Nat×AH))(als:List Al)(qs:List Qu)(K:RS->Prop):Prop:=
 match gy E o.op with
 | true=>(match b8 (mk ms i) als G with
   | some H=>ux tab E el H (rho E F (bH o.op)) o.op (λv G'=>bif als.all (tJ H G')&&Nat.ble (n0+sz) G'.next then
    qsK E el als G' (mk ms i) qs (putK n F o.dst v (λF'=>ih (i+1) ⟨F',G',(i,G)::past,als,qs⟩ K))else False)
   |none=>False)
 | false =>(match sxAl E el (rho E F (bH o.op)) o.op with
  |some r0=>pc r0.1 (bif (vis G (n0+i)).isNone&&past.all (λp=>(vis p.2 (n0+i)).isNone)then putK n F o.dst (r0.2.2 (n0+i)) (λF'=>ih (i+1) ⟨F',G,past,(i,n0+i,r0.2.1)::als,qs⟩ K)else False)
  | none =>(match bZ E (rho E F (bH o.op)) o.op with
   |some r=>bif (vis G (n0+i)).isNone&&past.all (λp=>(vis p.2 (n0+i)).isNone)then putK n F o.dst (r.2 (n0+i)) (λF'=>ih (i+1) ⟨F',G,past,(i,n0+i,r.1)::als,qs⟩ K)else False
   | none =>(match b8 (mk ms i) als G with
     | some H=>(match sxQ E el H (rho E F (bH o.op)) o.type o.op with
       | some r=>pc r.1 (match hdep o.op with
         |true=>CY E el als ⟨i,mk ms i,o,F,r.2⟩ past (putK n F o.dst r.2 (λF'=>ih (i+1) ⟨F',G,past,als,⟨i,mk ms i,o,F,r.2⟩::qs⟩ K))
         |false=>putK n F o.dst r.2 (λF'=>ih (i+1) ⟨F',G,past,als,qs⟩ K))
       |none=>Stop (o.op,H))
     |none=>False)))
def sxRL(tab:Tab)(E:Env)(el:El)(ops:List Oper)(ms:Lg)(n n0 sz:Nat)(l:List Oper):Nat->RS->(RS->Prop)->Prop:=
 List.rec (motive:=λ_=>Nat->RS->(RS->Prop)->Prop) (λ_ S K=>K S)
  (λo _ ih i S K=>sxG ops S.F o (λF=>uS tab E el ms n n0 sz o ih i F S.G S.past S.als S.qs K) (λF=>putK n F o.dst undef (λF'=>ih (i+1) ⟨F',S.G,S.past,S.als,S.qs⟩ K))) l
theorem fQ{g:Tab}{E:Env}(j:E.sym=true){Q:El}{ops:List Oper}{J:Lg}{n q sz:Nat}:∀ (l:List Oper) (i:Nat) (S:RS) (K:RS->Prop),sxRL g E Q ops J n q sz l i S K->RL (ud g) E ops J n q sz l i S K
 | [],i,S,K,h=>.nil h
 |o::l,i,⟨F,G,past,als,qs⟩,K,h=>by have h:sxG ops F o (λF=>uS g E Q J n q sz o (sxRL g E Q ops J n q sz l) i F G past als qs K) (λF=>putK n F o.dst undef (λC=>sxRL g E Q ops J n q sz l (i+1) ⟨C,G,past,als,qs⟩ K)):=h;rcases Au h with⟨u,h⟩|⟨u,h⟩;unfold uS at h;split at h;rename_i D;split at h;rename_i H O;obtain⟨v,V,X,h⟩:=uw h;cases b:(als.all (tJ H V)&&Nat.ble (q+sz) V.next);rw[b]at h;exact h.elim;rw[b]at h;simp only[f']at b;obtain⟨M,h⟩:=vc j h;obtain⟨C,z,h⟩:=eV h;exact RL.eff j u D O X b.1 M b.2 z (fQ j l (i+1) _ K h);exact h.elim;rename_i D;split at h;rename_i L R;obtain⟨U,h⟩:=dh h;have I:=Cj (p:=L.1) (r:=L.2) R U;cases b:((vis G (q+i)).isNone&&past.all (λp=>(vis p.2 (q+i)).isNone));rw[b]at h;exact h.elim;rw[b]at h;obtain⟨C,z,h⟩:=eV h;exact RL.alloc u D (ob:=L.2.1) (fv:=L.2.2) I b z (fQ j l (i+1) _ K h);split at h;rename_i r I;cases b:((vis G (q+i)).isNone&&past.all (λp=>(vis p.2 (q+i)).isNone));rw[b]at h;exact h.elim;rw[b]at h;obtain⟨C,z,h⟩:=eV h;exact RL.alloc u D (ob:=r.1) (fv:=r.2) I b z (fQ j l (i+1) _ K h);rename_i I;split at h;rename_i H O;split at h;rename_i r Y;obtain⟨z,h⟩:=dh h;have M:=ut j Y z;split at h;rename_i hd;obtain⟨y,h⟩:=rc j h;obtain⟨C,a,h⟩:=eV h;exact RL.read j u D I O M hd y a (fQ j l (i+1) _ K h);rename_i hd;obtain⟨C,a,h⟩:=eV h;exact RL.quiet u D I O M hd a (fQ j l (i+1) _ K h);exact h.elim;exact h.elim;obtain⟨C,a,h⟩:=eV h;exact RL.skip u a (fQ j l (i+1) _ K h)
def sxReg(tab:Tab)(E:Env)(el:El)(ops:Array Oper)(l:List Oper)(sz:Nat)(n:Nat)(F:T Value)(A:AH)(K:KF):Prop:=
 bif nY E ops&&Nat.blt (A.next+sz+1) 1099511627776 then
  sxRL tab E el l (eY l []) n A.next sz l 0 ⟨F,⟨A.t,A.next+sz⟩,[],[],[]⟩ (λS=>match b8 (2 ^ sz-1) S.als S.G with|some A'=>K S.F A'|none=>False)
 else False
theorem W.sxReg(i:E.Ok)(l:E.sym=true){a:Tab}(j:TabOk E a){u:El}{Q:Post}{id:Nat}{ops:Array Oper}
 (h:AM.sxReg a E u ops ops.toList ops.toList.length n F A (Q .normal)):W E A0 n (.region id ops true) Q F A:=by unfold AM.sxReg at h;cases b:(nY E ops&&Nat.blt (A.next+ops.toList.length+1) 1099511627776);rw[b]at h;exact h.elim;rw[b]at h;simp only[f']at b;refine W.drawn i (z7 j) b.1 rfl rfl rfl b.2 ?_;obtain⟨y,r,g⟩:=fQ l _ _ _ _ h;refine⟨y,r,?_⟩;split at g;rename_i A' q;exact⟨A',q,g⟩;exact g.elim
def fwd:Ld->Nat->Lk
 | [],_=>none
 |x::m,B=>bif Nat.beq B x.2 then some x.1 else fwd m B
def bak(m:Ld)(B B':Nat):Bool:=match back m B' with|some C=>Nat.beq C B|none=>false
def renB(m:Ld)(B:Nat):Lk:=match fwd m B with|some B'=>bif bak m B B' then some B' else none|none=>none
theorem pw{m:Ld}{B':Nat}(h:renB m B=some B'):back m B'=some B:=by unfold renB at h;split at h;rename_i C g;cases a:bak m B C;rw[a]at h;cases h;rw[a]at h;simp only[D',osI]at h;subst h;unfold bak at a;split at a;rename_i D b;rw[b,Gt a];cases a;cases h
abbrev RL2:=Option (Lh×Value)
def renL(f:Value->RL2)(l:Lh):Option (Lh×Lh):=
 List.rec (motive:=λ_=>Option (Lh×Lh)) (some ([],[])) (λv _ ih=>match f v with
  |some r=>(match ih with|some s=>some (r.1++s.1,r.2::s.2)|none=>none)
  |none=>none) l
def renV(m:Ld):Nat->Value->RL2
 |0,_=>none
 | k+1,v=>match v with
   | .pointer (some ⟨B,i,none⟩)=>(match renB m B with|some B'=>some ([],.pointer (some ⟨B',i,none⟩))|none=>none)
   | .slice (some ⟨B,i,none⟩) n c=>(match renB m B with|some B'=>some ([],.slice (some ⟨B',i,none⟩) n c)|none=>none)
   | .map (some B)=>(match renB m B with|some B'=>some ([],.map (some B'))|none=>none)
   | .agg ⟨xs⟩=>(match renL (renV m k) xs with|some r=>some (r.1,.agg ⟨r.2⟩)|none=>none)
   | .tuple ⟨xs⟩=>(match renL (renV m k) xs with|some r=>some (r.1,.tuple ⟨r.2⟩)|none=>none)
   | .iface t x=>(match renV m k x with|some r=>some (r.1,.iface t r.2)|none=>none)
   | .func (.yield sz) xs ys=>some ([.func (.yield sz) xs ys],.func (.yield sz) xs ys)
   | .func (.func g) ⟨xs⟩ ⟨ys⟩=>(match renL (renV m k) xs,renL (renV m k) ys with|some r,some s=>some (r.1++s.1,.func (.func g) ⟨r.2⟩ ⟨s.2⟩)|_,_=>none)
   |v=>bif scal v then some ([],v)else none
def HFs(l:Lh)(p:Prop):Prop:=List.rec (motive:=λ_=>Prop) p (λv _ ih=>HF v/\ih) l
theorem gn{p:Prop}:∀ {l:Lh},HFs l p->(∀x∈l,HF x)/\p
 | [],h=>⟨λx a=>by simp at a,h⟩
 |v::l,h=>by obtain⟨g,b⟩:=gn (l:=l) h.2;exact⟨HF.cons h.1 g,b⟩
theorem cU{ρ:Nat->Lk}{f:Value->RL2}(b:∀ v r,f v=some r->(∀x∈r.1,HF x)->RV ρ v r.2):∀ {l:Lh}{r:Lh×Lh},renL f l=some r->(∀x∈r.1,HF x)->RVs ρ l r.2
 | [],r,h,_=>by have h:some ([],[])=some r:=h;cases h;exact .nil
 |v::l,r,h,hh=>by have h:(match f v with|some r=>(match renL f l with|some s=>some (r.1++s.1,r.2::s.2)|none=>none)|none=>none)=some r:=h;split at h;rename_i g j;split at h;rename_i s i;cases h;exact .cons (b v g j λx a=>hh x (by simp[a])) (cU b i λx a=>hh x (by simp[a]));cases h;cases h
theorem cr{m:Ld}:∀ (k:Nat) (v:Value) (r:Lh×Value),renV m k v=some r->(∀x∈r.1,HF x)->RV (back m) v r.2
 |0,v,r,h,_=>by cases h
 |k+1,v,r,h,hh=>by unfold renV at h;split at h;split at h;rename_i i b;cases h;exact .ptr (pw b);cases h;split at h;rename_i i b;cases h;exact .slice (pw b);cases h;split at h;rename_i i b;cases h;exact .map (pw b);cases h;split at h;rename_i s a;cases h;exact .agg (cU (cr k) a hh);cases h;split at h;rename_i s a;cases h;exact .tuple (cU (cr k) a hh);cases h;split at h;rename_i s a;cases h;exact .iface (cr k _ _ a hh);cases h;cases h;exact .hf (hh _ (by simp));split at h;rename_i s1 u q l;cases h;exact .func rfl (cU (cr k) q λx g=>hh x (by simp[g])) (cU (cr k) l λx g=>hh x (by simp[g]));cases h;rw[Bool.cond_eq_ite]at h;split at h;rename_i j;cases h;exact .hf (.scal j);cases h
def sW(m:Ld)(F:T Value)(l:Lg):Option (Lh×List (Nat×Value)):=
 List.rec (motive:=λ_=>Option (Lh×List (Nat×Value))) (some ([],[])) (λt _ ih=>match F.get t with
  | some v=>(match renV m 8 v with
    |some r=>(match ih with|some s=>some (r.1++s.1,(t,r.2)::s.2)|none=>none)
    |none=>none)
  |none=>none) l
theorem lM{m:Ld}{F:T Value}:∀ {l:Lg}{r},sW m F l=some r->(∀x∈r.1,HF x)->RenF m F r.2
 | [],r,h,_=>by have h:some ([],[])=some r:=h;cases h;exact .nil
 | t ::l,r,h,hh=>by
  have h:(match F.get t with
   | some v=>(match renV m 8 v with
     |some r=>(match sW m F l with|some s=>some (r.1++s.1,(t,r.2)::s.2)|none=>none)
     |none=>none)
   |none=>none)=some r:=h
  split at h;rename_i v g;split at h;rename_i b j;split at h;rename_i s i;cases h;exact .cons g (cr 8 v b j λx a=>hh x (by simp[a])) (lM i λx a=>hh x (by simp[a]));cases h;cases h;cases h
def inL(k:Nat)(l:Lg):Bool:=l.any λx=>Nat.beq x k
def renW(o:AObj):Option (Lh×AObj):=
 match o with
 | .cells c e=>some ([.agg ⟨c⟩],.cells c e)
 | .gro els tl e=>some ([.agg ⟨glue els tl⟩],.gro (glue els tl) [] e)
 | .map es k=>some ([.agg ⟨es.map λx=>x.2.1⟩],.map es k)
 |_=>none
def isWh(ws:Lg)(o:AObj):Bool:=match o with| .cells _ e=>inL e ws| .gro _ _ _=>true| .map _ _=>true|_=>false
theorem lF(h:HF (.agg ⟨c⟩)):∀ x∈c,HF x:=by
 cases h with
 |scal h=>simp[scal]at h
 |agg h=>exact h
theorem lX{ρ:Nat->Lk}{o:AObj}{r:Lh×AObj}(h:renW o=some r)(i:∀ x∈r.1,HF x):RO ρ o r.2:=by
 unfold renW at h;split at h;cases h;exact .cells (RVs.hf (lF (i _ (by simp))));cases h;refine .gro λx a=>?_;rw[<-b7]at a;obtain⟨y,u,a⟩:=List.mem_flatMap.1 a;have g:=lF (i _ (by simp)) y u;cases y with
 |agg l=>obtain⟨l⟩:=l;exact lF g x a
 |_=>simp only[Value.cells,GZ]at a;first|(rw[a];exact g)|(simp at a;rw[a];exact g)
 rename_i j k;cases h;refine .map ?_;have b:=lF (i (.agg ⟨j.map λx=>x.2.1⟩) (by simp));clear i;induction j with
 |nil=>exact .nil
 |cons y j q=>obtain⟨z,v1,C⟩:=y;exact .cons (.hf (b v1 (by simp))) (q λx a=>b x (by simp only[Hq,Gz];exact .inr a))
 cases h
def renO(m:Ld)(o:AObj):Option (Lh×AObj):=
 match o with
 | .cells c e=>(match renL (renV m 8) c with|some r=>some (r.1,.cells r.2 e)|none=>none)
 | .ro c e=>(match renL (renV m 8) c with|some r=>some (r.1,.ro r.2 e)|none=>none)
 | .arr els c n e=>(match renL (renV m 8) c with|some r=>some (.agg ⟨els⟩::r.1,.arr els r.2 n e)|none=>none)
 | .dead=>some ([],.dead)
 |_=>none
theorem lY{m:Ld}{o:AObj}{r:Lh×AObj}(h:renO m o=some r)(a:∀ x∈r.1,HF x):RO (back m) o r.2:=by unfold renO at h;split at h;split at h;rename_i s g;cases h;exact .cells (cU (cr 8) g a);cases h;split at h;rename_i s g;cases h;exact .ro (cU (cr 8) g a);cases h;split at h;rename_i j i;cases h;exact .arr (λx b=>lF (a _ (by simp)) x b) (cU (cr 8) i λx b=>a x (by simp[b]));cases h;cases h;exact .dead;cases h
def BZ(ws:Lg)(m:Ld)(A:AH)(l:Ld):Option (Lh×List (Nat×AObj)):=
 List.rec (motive:=λ_=>Option (Lh×List (Nat×AObj))) (some ([],[])) (λx _ ih=>match A.t.get x.2 with
  | some o=>(match(bif isWh ws o then renW o else renO m o)with
    |some r=>(match ih with|some s=>some (r.1++s.1,(x.1,r.2)::s.2)|none=>none)
    |none=>none)
  |none=>none) l
theorem qF{ws:Lg}{m:Ld}{A:AH}:∀ {l:Ld}{r},BZ ws m A l=some r->(∀x∈l,back m x.1=some x.2)->(∀x∈r.1,HF x)->RenH m A r.2
 | [],r,h,_,_=>by have h:some ([],[])=some r:=h;cases h;exact .nil
 | t ::l,r,h,hb,hh=>by
  have h:(match A.t.get t.2 with
   | some o=>(match(bif isWh ws o then renW o else renO m o)with
     |some r=>(match BZ ws m A l with|some s=>some (r.1++s.1,(t.1,r.2)::s.2)|none=>none)
     |none=>none)
   |none=>none)=some r:=h
  split at h;rename_i v j;split at h;rename_i i b;split at h;rename_i s q;cases h;have u:RO (back m) v i.2:=by
   cases g:isWh ws v with
   |true=>rw[g]at b;exact lX b λx a=>hh x (by simp[a])
   |false=>rw[g]at b;exact lY b λx a=>hh x (by simp[a])
  exact .cons (hb t (by simp)) j u (qF q (λx a=>hb x (by simp[a])) λx a=>hh x (by simp[a]));cases h;cases h;cases h
def baks(m:Ld):Bool:=m.all λx=>bak m x.2 x.1
def kz (ws:Lg)(m:Ld)(slots:Lg)(nx:Nat)(F:T Value)(A:AH)(K:KF):Prop:=
 match sW m F slots with
 | some r=>(match BZ ws m A m with
   | some s=>(match ofL r.2 .leaf with
     | some F1=>(match ofL s.2 .leaf with
       |some t1=>bif bn nx m&&baks m then HFs (r.1++s.1) (K F1 ⟨t1,nx⟩)else False
       |none=>False)
     |none=>False)
   |none=>False)
 |none=>False
theorem nK(j:GlOk E){m:Ld}(i:∀ B,B<A0.next->back m B=some B)(g:A0.next<=nx){K:KF}(h:kz ws m slots nx F A K):∃ F1 A1,K F1 A1/\Turns E A0 n F A F1 A1:=by unfold kz at h;split at h;rename_i r y;split at h;rename_i s u;split at h;rename_i F1 z;split at h;rename_i t1 q;cases b:(bn nx m&&baks m);rw[b]at h;exact h.elim;rw[b]at h;simp only[f']at b;obtain⟨l,k⟩:=gn h;refine⟨F1,⟨t1,nx⟩,k,Turns.renK j m r.2 s.2 nx i g b.1 z q (lM y λx a=>l x (by simp[a])) (qF u (λx a=>?_) λx a=>l x (by simp[a]))⟩;have:=G0.1 b.2 x a;unfold bak at this;split at this;rename_i C D;rw[D,Gt this];cases this;exact h.elim;exact h.elim;exact h.elim;exact h.elim
theorem lL(a:GlOk E)(g:A0.next=0){m:Ld}{K:KF}(h:kz ws m slots nx F A K):∃ F1 A1,K F1 A1/\Turns E A0 n F A F1 A1:=
 nK a (λB b=>by omega) (by omega) h
def idK(m:Ld)(k:Nat):Bool:=Nat.rec (motive:=λ_=>Bool) true (λi ih=>(match back m i with|some B=>Nat.beq B i|none=>false)&&ih) k
theorem Bd{m:Ld}:∀ {k:Nat},idK m k=true->∀ B,B<k->back m B=some B
 |0,_,B,hB=>by omega
 | k+1,h,B,hB=>by
  have h:((match back m k with|some B=>Nat.beq B k|none=>false)&&idK m k)=true:=h;rw[f']at h;rcases Hc B k with q|q;exact Bd h.2 B q;obtain rfl:B=k:=by omega
  have a:=h.1;split at a;rename_i C b;rw[b,Gt a];cases a
def nJ(k:Nat)(ws:Lg)(m:Ld)(slots:Lg)(nx:Nat)(F:T Value)(A:AH)(K:KF):Prop:=bif idK m k&&Nat.ble k nx then kz ws m slots nx F A K else False
theorem jq(b:GlOk E){m:Ld}{K:KF}(h:nJ A0.next ws m slots nx F A K):∃ F1 A1,K F1 A1/\Turns E A0 n F A F1 A1:=by
 unfold nJ at h;cases a:idK m A0.next&&Nat.ble A0.next nx
 rw[a]at h;exact h.elim;rw[a]at h;rw[f',GI]at a;exact nK b (Bd a.1) a.2 h
def tellK(m:Ld)(slots:Lg)(nx:Nat)(F:T Value)(A:AH)(K:KF):Prop:=kz [] m slots nx F A K
def ko(f:Value->Lg)(l:Lh):Lg:=List.rec (motive:=λ_=>Lg) [] (λv _ ih=>f v++ih) l
def blks:Nat->Value->Lg
 |0,_=>[]
 | k+1,v=>match v with
   | .pointer (some ⟨B,_,_⟩)=>[B]
   | .slice (some ⟨B,_,_⟩) _ _=>[B]
   | .map (some B)=>[B]
   | .agg ⟨xs⟩=>ko (blks k) xs
   | .tuple ⟨xs⟩=>ko (blks k) xs
   | .iface _ x=>blks k x
   | .func (.func _) ⟨xs⟩ ⟨ys⟩=>ko (blks k) xs++ko (blks k) ys
   |_=>[]
def ta(ws:Lg)(A:AH)(k:Nat):Lg->Lg->Lg:=
 Nat.rec (motive:=λ_=>Lg->Lg->Lg) (λ_ seen=>seen) (λ_ ih todo seen=>match todo with
  | []=>seen
  | B::r=>bif inL B seen then ih r seen else(match A.t.get B with
    |some (.cells c e)=>bif inL e ws then ih r (seen++[B])else ih (r++ko (blks 8) c) (seen++[B])
    |some (.ro c e)=>bif inL e ws then ih r (seen++[B])else ih (r++ko (blks 8) c) (seen++[B])
    |some (.arr _ c _ e)=>ih (r++ko (blks 8) c) (seen++[B])
    |_=>ih r (seen++[B]))) k
def numb(l:Lg):Nat->Ld:=List.rec (motive:=λ_=>Nat->Ld) (λ_=>[]) (λB _ ih k=>(k,B)::ih (k+1)) l
def slotB(F:T Value)(l:Lg):Lg:=List.rec (motive:=λ_=>Lg) [] (λt _ ih=>(match F.get t with|some v=>blks 8 v|none=>[])++ih) l
def autoM(ws slots:Lg)(F:T Value)(A:AH):Ld:=numb (ta ws A 64 (slotB F slots) []) 0
def lenM(m:Ld):Nat:=List.rec (motive:=λ_=>Nat) 0 (λ_ _ ih=>ih+1) m
def yb(ws slots:Lg)(F:T Value)(A:AH)(K:KF):Prop:=kz ws (autoM ws slots F A) slots (lenM (autoM ws slots F A)) F A K
def idsL(k:Nat):Lg:=Nat.rec (motive:=λ_=>Lg) [] (λi ih=>ih++[i]) k
def Bu(k:Nat)(ws slots:Lg)(F:T Value)(A:AH):Ld:=numb (ta ws A 64 (idsL k++slotB F slots) []) 0
def ur(k:Nat)(ws slots:Lg)(F:T Value)(A:AH)(K:KF):Prop:=nJ k ws (Bu k ws slots F A) slots (lenM (Bu k ws slots F A)) F A K
def blkAt(p:NPos)(F:T Value)(A:AH):Lk:=
 match p with
 | .made _=>none
 | .cutS _=>none
 | .cutC _ _ _=>none
 | .nilC _ _ _=>none
 | .emp _=>none
 | .groC _ _ _=>none
 | .slot t=>(match F.get t with
   |some (.slice (some ⟨B,_,none⟩) _ _)=>some B
   |_=>none)
 | .cell t j=>(match F.get t with
   | some (.pointer (some ⟨B,0,none⟩))=>(match A.t.get B with
     | some (.cells c _)=>(match nth c j with
       |some (.slice (some ⟨B2,_,none⟩) _ _)=>some B2
       |_=>none)
     | some (.arr _ rest nn _)=>(match nth rest (j-nn)with
       |some (.slice (some ⟨B2,_,none⟩) _ _)=>some B2
       |_=>none)
     |_=>none)
   |_=>none)
def frzK(E:Env)(l:List NPos)(F:T Value):AH->(AH->Prop)->Prop:=
 List.rec (motive:=λ_=>AH->(AH->Prop)->Prop) (λA K=>K A) (λp _ ih A K=>match blkAt p F A with
  |some B=>frzT E B 16 A (λA1=>ih A1 K)
  |none=>ih A K) l
theorem p6{E:Env}(g:E.Ok){F:T Value}:∀ {l:List NPos}{A:AH}{K:AH->Prop},frzK E l F A K->∃ A',K A'/\∀ (σ:Sig) (w:World),Rel E.P σ A w->∃ σ',Rel E.P σ' A' w/\Ext σ A w σ' A' w
 | [],A,K,h=>⟨A,h,fun σ w R=>⟨σ,R,Ext.refl _ _ _⟩⟩
 | p::l,A,K,h=>by
  have h:(match blkAt p F A with
   |some B=>frzT E B 16 A (λi=>frzK E l F i K)
   |none=>frzK E l F A K):=h
  split at h;obtain⟨i,h,q⟩:=wD g h;obtain⟨C,h,j⟩:=p6 g h;refine⟨C,h,fun σ w R=>?_⟩;obtain⟨b,z,u⟩:=q σ w R;obtain⟨a,y,r⟩:=j b w z;exact⟨a,y,u.trans r⟩;exact p6 g h
theorem la(q:E.Ok){l:List NPos}{K:AH->Prop}(h:frzK E l F A K):∃ A',K A'/\Turns E A0 n F A F A':=by obtain⟨A',h,y⟩:=p6 q h;refine⟨A',h,fun j C a w ⟨σ,u,R,r,X⟩=>?_⟩;obtain⟨g,z,i⟩:=y σ w R;have b:=Ext.sub R i;exact⟨g,u.mono b,z,r.sub b,X.trans i⟩
def uq(E:Env)(ns:List (NPos×TypeId×Nat))(zs:List NPos)(ws slots:Lg)(F:T Value)(A:AH)(K:KF):Prop:=nilK E ns F A (λF1 A1=>frzK E zs F1 A1 (λA2=>yb ws slots F1 A2 K))
def eM(k:Nat)(E:Env)(ns:List (NPos×TypeId×Nat))(zs:List NPos)(ws slots:Lg)(F:T Value)(A:AH)(K:KF):Prop:=nilK E ns F A (λF1 A1=>frzK E zs F1 A1 (λA2=>ur k ws slots F1 A2 K))
theorem cS(b:E.Ok)(a:GlOk E){ns:List (NPos×TypeId×Nat)}{zs:List NPos}{K:KF}(h:eM A0.next E ns zs ws slots F A K):∃ F1 A1,K F1 A1/\Turns E A0 n F A F1 A1:=by obtain⟨F1,A1,h,t1⟩:=mw (E:=E) b (A0:=A0) (n:=n) h;obtain⟨l,h,t2⟩:=la b (A0:=A0) (n:=n) h;obtain⟨i,j,h,g⟩:=jq a (A0:=A0) (n:=n) h;exact⟨i,j,h,t1.trans (t2.trans g)⟩
theorem qG(a:GlOk E)(b:A0.next=0){K:KF}(h:yb ws slots F A K):∃ F1 A1,K F1 A1/\Turns E A0 n F A F1 A1:=lL a b h
theorem qE(b:E.Ok)(a:GlOk E)(i:A0.next=0){ns:List (NPos×TypeId×Nat)}{zs:List NPos}{K:KF}(h:uq E ns zs ws slots F A K):∃ F1 A1,K F1 A1/\Turns E A0 n F A F1 A1:=by obtain⟨F1,A1,h,t1⟩:=mw (E:=E) b (A0:=A0) (n:=n) h;obtain⟨q,h,t2⟩:=la b (A0:=A0) (n:=n) h;obtain⟨j,l,h,g⟩:=qG a i (n:=n) h;exact⟨j,l,h,t1.trans (t2.trans g)⟩
inductive LM where
 |unroll (m:Nat)
 |cutW (ws:Lg) (m:Ld) (slots:Lg) (nx:Nat)
 |auto (ws slots:Lg)
 |autoN (ns:List (NPos×TypeId×Nat)) (zs:List NPos) (ws slots:Lg)
 |raw
def LM.cut(m:Ld)(slots:Lg)(nx:Nat):LM:=.cutW [] m slots nx
structure SX where
 E:Env
 tab:Tab
 el:El
 lm:Nat->LM
structure SX.Ok (X:SX):Prop where
 ok:X.E.Ok
 sym:X.E.sym=true
 gl:GlOk X.E
 tab:TabOk X.E X.tab
def keyOf(c:Code):Nat:=
 Code.rec (motive:=λ_=>Nat) 0 (λid _ _=>id) (λ_ _ x y=>bif Nat.beq x 0 then y else x) (λ_ _ _ x y=>bif Nat.beq x 0 then y else x) (λ_ _ x=>x) (λ_ x=>x) (λ_ _ _ _ x y=>bif Nat.beq x 0 then y else x) (λ_=>0) (λ_ x=>x) (λ_=>0) (λ_=>0) 0 (λ_=>0) c
abbrev KX:=Ex->T Value->AH->Prop
abbrev SC:=T Value->AH->KX->Prop
def sxBr(E:Env)(F:T Value)(b:Operand)(x y:T Value->Prop):Prop:=match b with
 | .tmp t=>(match F.get t with|some (.bool v)=>Sp v (setK F t (.bool true) x) (setK F t (.bool false) y)|_=>Stop b)
 |b=>(match ev E F b with|some (.bool v)=>Sp v (x F) (y F)|_=>Stop b)
theorem Ci{b:Operand}{x y:T Value->Prop}(h:sxBr E F b x y):∃ t,ev E F b=some (.bool t)/\((t=true/\x F)∨(t=false/\y F)):=by unfold sxBr at h;split at h;rename_i t;split at h;rename_i v a;refine⟨v,a,?_⟩;rcases h.cases with⟨g,h⟩|⟨g,h⟩;obtain⟨j,i,h⟩:=lS h;rw[g]at a;rw[cC _ _ _ _ _ a i]at h;exact .inl ⟨g,h⟩;obtain⟨j,i,h⟩:=lS h;rw[g]at a;rw[cC _ _ _ _ _ a i]at h;exact .inr ⟨g,h⟩;exact h.elim;split at h;rename_i v a;exact⟨v,a,h.cases⟩;exact h.elim
def qI(b:SC)(m:Nat)(K:KX):T Value->AH->Prop:=Nat.rec (motive:=λ_=>T Value->AH->Prop) (λ_ _=>False) (λ_ ih F A=>b F A (Then ih K)) m
def uu(X:SX)(A0:AH)(n:Nat)(body:Code)(b:SC):SC:=λF A K=>
 match X.lm (keyOf body)with
 | .unroll m=>qI b m K F A
 | .cutW ws m slots nx=>bif Nat.beq A0.next 0 then kz ws m slots nx F A (λF1 A1=>Leaf (W X.E A0 n (.loop body) K F1 A1))else nJ A0.next ws m slots nx F A (λF1 A1=>Leaf (W X.E A0 n (.loop body) K F1 A1))
 | .auto ws slots=>bif Nat.beq A0.next 0 then yb ws slots F A (λF1 A1=>Leaf (W X.E A0 n (.loop body) K F1 A1))else ur A0.next ws slots F A (λF1 A1=>Leaf (W X.E A0 n (.loop body) K F1 A1))
 | .autoN ns zs ws slots=>bif Nat.beq A0.next 0 then uq X.E ns zs ws slots F A (λF1 A1=>Leaf (W X.E A0 n (.loop body) K F1 A1))else eM A0.next X.E ns zs ws slots F A (λF1 A1=>Leaf (W X.E A0 n (.loop body) K F1 A1))
 | .raw=>Leaf (W X.E A0 n (.loop body) K F A)
def lO(X:SX)(inl:Inl)(n:Nat)(ops:Array Oper)(draw:Bool):SC:=λF A K=>
 match draw with
 |false=>sxOps X.tab inl X.E X.el ops.toList n ops.toList F A (K .normal)
 |true=>sxReg X.tab X.E X.el ops ops.toList ops.toList.length n F A (K .normal)
def sxC(X:SX)(inl:Inl)(A0:AH)(n:Nat)(c:Code):SC:=
 Code.rec (motive:=λ_=>SC)
  (λF A K=>K .normal F A)
  (λ_ ops draw=>lO X inl n ops draw)
  (λ_ _ x y F A K=>x F A (Then (λF' A'=>y F' A' K) K))
  (λb _ _ x y F A K=>sxBr X.E F b (λF=>x F A K) (λF=>y F A K))
  (λid _ x F A K=>x F A (Blk id K))
  (λbody x=>uu X A0 n body x)
  (λ_ _ _ _ _ _ _ _ _=>False)
  (λid F A K=>K (.exit id) F A)
  (λ_ x F A K=>x F A K)
  (λ_ F A K=>K .normal F A)
  (λ_ _ _ _=>False)
  (λF A K=>K .ret F A)
  (λ_ _ _ _=>False) c
theorem ju{E:Env}{A0:AH}{n:Nat}{a:Code}{b:SC}(g:∀ F A K,b F A K->W E A0 n a K F A){K:KX}:∀ (m:Nat) (F:T Value) (A:AH),qI b m K F A->WR E A0 n a K m F A
 |0,F,A,h=>h.elim
 | m+1,F,A,h=>by
  refine WR.next ((g F A _ h).mono λi j A' q=>?_)
  cases i with
  |normal=>exact ju g m j A' q
  |exit id=>exact q
  |ret=>exact q
theorem Aw{X:SX}(j:X.Ok){inl:Inl}(R:xZ X.E inl)(c:Code):∀ F A K,sxC X inl A0 n c F A K->W X.E A0 n c K F A:=by
 induction c with
 |skip=>intro F A K h;exact W.skip h
 |region id G z=>intro F A K h;have h:lO X inl n G z F A K:=h;unfold lO at h;cases z;exact W.sxOps j.ok j.sym j.tab R h;exact W.sxReg j.ok j.sym j.tab h
 | seq a b L J=>
  intro F A K h;have h:sxC X inl A0 n a F A (Then (λM A'=>sxC X inl A0 n b M A' K) K):=h;refine W.seq ((L F A _ h).mono λS M A' q=>?_);cases S with
  |normal=>exact J M A' K q
  |exit id=>exact q
  |ret=>exact q
 |cond b x y I H=>intro F A K h;have h:sxBr X.E F b (λF=>sxC X inl A0 n x F A K) (λF=>sxC X inl A0 n y F A K):=h;obtain⟨t,r,h⟩:=Ci h;refine W.cond r (λe=>?_) (λe=>?_);rcases h with⟨_,h⟩|⟨D,_⟩;exact I F A K h;rw[e]at D;cases D;rcases h with⟨D,_⟩|⟨_,h⟩;rw[e]at D;cases D;exact H F A K h
 |block id b C=>intro F A K h;exact W.block (C F A _ h)
 | loop b C=>
  intro F A K h;have h:uu X A0 n b (sxC X inl A0 n b) F A K:=h;unfold uu at h;split at h;rename_i m _;exact W.rounds m (ju (λF A K h=>C F A K h) m F A h);rename_i ws m slots nx _;cases u:Nat.beq A0.next 0
  rw[u]at h;have h:nJ A0.next ws m slots nx F A (λg i=>Leaf (W X.E A0 n (.loop b) K g i)):=h
  obtain⟨g,i,k,r⟩:=jq (E:=X.E) j.gl (A0:=A0) (n:=n) h;exact W.turns r k.get;rw[u]at h;have h:kz ws m slots nx F A (λg i=>Leaf (W X.E A0 n (.loop b) K g i)):=h;obtain⟨g,i,k,r⟩:=lL (E:=X.E) j.gl (Gt u) (n:=n) h;exact W.turns r k.get;rename_i ws slots _;cases u:Nat.beq A0.next 0
  rw[u]at h;have h:ur A0.next ws slots F A (λg i=>Leaf (W X.E A0 n (.loop b) K g i)):=h
  obtain⟨g,i,k,r⟩:=jq (E:=X.E) j.gl (A0:=A0) (n:=n) h;exact W.turns r k.get;rw[u]at h;have h:yb ws slots F A (λg i=>Leaf (W X.E A0 n (.loop b) K g i)):=h;obtain⟨g,i,k,r⟩:=qG (E:=X.E) j.gl (Gt u) (n:=n) h;exact W.turns r k.get;rename_i Q O ws slots _;cases u:Nat.beq A0.next 0
  rw[u]at h;have h:eM A0.next X.E Q O ws slots F A (λg i=>Leaf (W X.E A0 n (.loop b) K g i)):=h
  obtain⟨g,i,k,r⟩:=cS (E:=X.E) j.ok j.gl (A0:=A0) (n:=n) h;exact W.turns r k.get;rw[u]at h;have h:uq X.E Q O ws slots F A (λg i=>Leaf (W X.E A0 n (.loop b) K g i)):=h;obtain⟨g,i,k,r⟩:=qE (E:=X.E) j.ok j.gl (Gt u) (n:=n) h;exact W.turns r k.get;exact h.get
 |rangeFunc f U a b=>intro F A K h;exact False.elim h
 |exit id=>intro F A K h;exact W.exit h
 |scope b C=>intro F A K h;exact W.scope (C F A K h)
 |label l=>intro F A K h;exact W.label h
 |goto l=>intro F A K h;exact False.elim h
 |ret=>intro F A K h;exact W.ret h
 |refuse s=>intro F A K h;exact False.elim h
def finK(E:Env)(rs:List ResultVar)(K:KV):KX:=λex F A=>
 match ex with
 | .exit _=>False
 |_=>(match cD E A F rs with|some v=>K v A|none=>False)
theorem ga{K:KV}{b:Ex}(h:finK E fn.results.toList K b F A):Fin E fn K b F A:=by
 cases b with
 |exit id=>exact h.elim
 |normal=>have h:(match cD E A F fn.results.toList with|some v=>K v A|none=>False):=h;split at h;rename_i v a;exact .normal a h;exact h.elim
 |ret=>have h:(match cD E A F fn.results.toList with|some v=>K v A|none=>False):=h;split at h;rename_i v a;exact .ret a h;exact h.elim
def bodyK(X:SX)(inl:Inl)(A0:AH)(fn:Func)(c:Code)(args:Lh)(K:KV):Prop:=
 match cd args 0 .leaf with
 |some F=>bif Nat.ble args.length fn.ntmps then sxC X inl A0 fn.ntmps c F A0 (finK X.E fn.results.toList K)else False
 |none=>False
def inl1(X:SX)(ih:Inl):Inl:=λfn args A K=>match fn.body with
 |some c=>bodyK ⟨X.E,X.tab,X.el,λ_=>.unroll 12⟩ ih A fn c args K
 |none=>False
def inlN(X:SX)(d:Nat):Inl:=Nat.rec (motive:=λ_=>Inl) (λ_ _ _ _=>False) (λ_ ih=>inl1 X ih) d
theorem v6{X:SX}(b:X.Ok):∀ d,xZ X.E (inlN X d)
 |0=>λg fn _ a A K h=>by exact False.elim h
 |d+1=>λg fn j a A K h σ w u R y D=>by have h:inl1 X (inlN X d) fn a A K:=h;unfold inl1 at h;split at h;rename_i c C;unfold bodyK at h;split at h;rename_i F H;cases l:Nat.ble a.length fn.ntmps;rw[l]at h;exact h.elim;rw[l]at h;have r:SX.Ok ⟨X.E,X.tab,X.el,λ_=>.unroll 12⟩:=⟨b.ok,b.sym,b.gl,b.tab⟩;have G:=(Aw r (v6 b d) c F A _ h).mono (R:=Fin X.E fn K) λS U A' q=>ga q;refine(oJ b.ok j C H (Ic l) G R y D).mono λe Q z=>?_;obtain⟨v,v',A',i,O,M,L,J,I⟩:=z;exact⟨v,A',v',i,O,M,L,J,I⟩;exact h.elim;exact h.elim
def sx(X:SX)(d:Nat)(A0:AH)(n:Nat)(c:Code):SC:=sxC X (inlN X d) A0 n c
theorem jt{X:SX}(a:X.Ok){c:Code}{K:KX}(h:sx X d A0 n c F A K):W X.E A0 n c K F A:=Aw a (v6 a d) c F A K h
def rb:Nat->Value->Bool
 |0,_=>false
 | k+1,v=>match v with
   | .agg ⟨xs⟩=>xs.all (rb k)
   | .tuple ⟨xs⟩=>xs.all (rb k)
   | .iface _ x=>rb k x
   | .func (.yield _) _ _=>true
   |v=>scal v
def zk(Q:Value->Prop)(QA:KV):KV:=λv A=>match rb 8 v with|true=>Q v|false=>QA v A
theorem zj{Q:Value->Prop}{a:KV}(h:zk Q a v A):Q v∨a v A:=by unfold zk at h;split at h;exact .inl h;exact .inr h
def au(fn:Func):Code:=match fn.body with|some c=>c|none=>.skip
def ak:Code->Code
 | .loop b=>b
 |c=>c
def iI:Code->Bool
 | .loop _=>true
 |_=>false
theorem jV{c:Code}(h:iI c=true):c=.loop (ak c):=by cases c<;>first|rfl|(simp[iI]at h)
def subC:Lg->Code->Code
 | [],c=>c
 | i::p,c=>match c with
   | .seq a b=>bif Nat.beq i 0 then subC p a else subC p b
   | .cond _ a b=>bif Nat.beq i 0 then subC p a else subC p b
   | .block _ b=>subC p b
   | .scope b=>subC p b
   | .loop b=>subC p b
   |c=>c
def ctxK(X:SX)(d:Nat)(n:Nat):Lg->Code->KX->KX
 | [],_,K=>K
 | i::p,c,K=>match c with
   | .seq a b=>bif Nat.beq i 0 then ctxK X d n p a (Then (λF A=>sx X d ⟨.leaf,0⟩ n b F A K) K)else ctxK X d n p b K
   | .cond _ a b=>bif Nat.beq i 0 then ctxK X d n p a K else ctxK X d n p b K
   | .block id b=>ctxK X d n p b (Blk id K)
   | .scope b=>ctxK X d n p b K
   |_=>K
def LAt(X:SX)(d n:Nat)(c:Code)(p:Lg)(K:KX)(F:T Value)(A:AH):Prop:=Leaf (W X.E ⟨.leaf,0⟩ n (subC p c) (ctxK X d n p c K) F A)
def stepK(X:SX)(d:Nat)(fn:Func)(p:Lg)(K:KV)(m:Ld)(slots:Lg)(nx:Nat)(again:KF):KX:=Then (λF' A'=>tellK m slots nx F' A' again) (ctxK X d fn.ntmps p (au fn) (finK X.E fn.results.toList K))
def sxStep(X:SX)(d:Nat)(fn:Func)(p:Lg)(K:KV)(m:Ld)(slots:Lg)(nx:Nat)(again:KF)(F:T Value)(A:AH):Prop:=sx X d ⟨.leaf,0⟩ fn.ntmps (ak (subC p (au fn))) F A (stepK X d fn p K m slots nx again)
theorem LAt.intro{X:SX}(i:X.Ok){c:Code}{p:Lg}{K:KX}(ws:Lg)(m:Ld)(slots:Lg)(nx:Nat)(j:iI (subC p c)=true)(I:Nat->T Value->AH->Prop)
 (b:∀ k F A,I k F A->sx X d ⟨.leaf,0⟩ n (ak (subC p c)) F A (Then (λg A'=>kz ws m slots nx g A' (λF1 A1=>∃ a,a<k/\I a F1 A1)) (ctxK X d n p c K))) (h:I k F A):LAt X d n c p K F A:=by
 refine .mk ?_;rw[jV j];refine W.loopT I (λk F A l=>?_) h Turns.refl;refine(jt i (b k F A l)).mono λz g A' q=>?_;cases z with
 |normal=>have q:kz ws m slots nx g A' (λF1 A1=>∃ a,a<k/\I a F1 A1):=q;obtain⟨F1,A1,⟨a,y,u⟩,r⟩:=lL (E:=X.E) i.gl (A0:=⟨.leaf,0⟩) rfl (n:=n) q;exact⟨a,F1,A1,y,u,r⟩
 |exit id=>exact q
 |ret=>exact q
theorem LAt.step{X:SX}(i:X.Ok){d:Nat}{fn:Func}{p:Lg}{K:KV}{F:T Value}{A:AH}(m:Ld)(slots:Lg)(nx:Nat)(g:iI (subC p (au fn))=true)(I:Nat->T Value->AH->Prop)
 (a:∀ k F A,I k F A->sxStep X d fn p K m slots nx (λF1 A1=>∃ b,b<k/\I b F1 A1) F A) {k:Nat}(h:I k F A):LAt X d fn.ntmps (au fn) p (finK X.E fn.results.toList K) F A:=
 LAt.intro i [] m slots nx g I a h
def ptr0:Value:=.pointer (some ⟨0,0,none⟩)
theorem de(q:E.Ok)(g:GlOk E)(i:E.fn f=some fn){b:Lh->Ll}{a:Lh->Lj}(h:∀ args v,a args=some v->PH (b args)->(∀x∈args,HF x)/\Walk E fn args v):
 ∀args A p v A',bD b a args A=some (p,v,A')->PH p->CallAt E f args A v A':=
 i4 λargs v j l A=>qw q g i (h args v j l).1 (h args v j l).2 A
end
end Go.AM
namespace Go.MK
open Go Go.AM
noncomputable section
abbrev _root_.Go.HW:=@List.cons_append
abbrev _root_.Go.GF:=@List.length_set
variable {K V:Type}[DecidableEq K]
def aget:List (K×V)->K->Option V
 | [],_=>none
 |x::m,k=>if x.1=k then some x.2 else aget m k
def aset:List (K×V)->K->V->List (K×V)
 | [],k,v=>[(k,v)]
 |x::m,k,v=>if x.1=k then(k,v)::m else x::aset m k v
def aidx:List (K×V)->K->Nat->Option (Nat×V)
 | [],_,_=>none
 |x::m,k,i=>if x.1=k then some (i,x.2)else aidx m k (i+1)
variable {E:Env}{k:K}{kv:K->Value}{et kt t:TypeId}{z:Value}
def aR(kv:K->Value)(vv:V->Value):List (K×V)->Nat->Lc
 | [],_=>[]
 |x::m,i=>(kv x.1,vv x.2,i)::aR kv vv m (i+1)
def ents(kv:K->Value)(vv:V->Value)(m:List (K×V)):Lc:=aR kv vv m 0
def inv(dk:Value->K)(dv:Value->V)(es:Lc):List (K×V):=es.map λx=>(dk x.1,dv x.2.1)
theorem mA{a:V->Value}{d:Value->K}{c:Value->V}(g:∀ k,d (kv k)=k)(f:∀ v,c (a v)=v)(m:List (K×V)):inv d c (ents kv a m)=m:=by
 have b:∀ (m:List (K×V)) (i:Nat),(aR kv a m i).map (λx=>(d x.1,c x.2.1))=m:=by
  intro m;induction m with
  |nil=>intro i;rfl
  |cons x m e=>intro i;simp only[aR,Hq,g,f,e]
 exact b m 0
theorem fe(kv:K->Value)(a:V->Value):∀ (m:List (K×V)) (i:Nat),(aR kv a m i).length=m.length
 | [],_=>rfl
 |x::m,i=>by simp only[aR,GR,fe kv a m]
theorem ql(kv:K->Value)(a:V->Value)(m:List (K×V)):(ents kv a m).length=m.length:=fe kv a m 0
theorem qB{b:V->Value}(h:∀ v,HF (b v))(m:List (K×V)):HF (.agg ⟨(ents kv b m).map λx=>x.2.1⟩):=.agg λx a=>by
 have c:∀ (m:List (K×V)) (i:Nat),∀x∈(aR kv b m i).map (λx=>x.2.1),HF x:=by
  intro m;induction m with
  |nil=>intro i x a;simp[aR]at a
  |cons y m d=>intro i x a;simp only[aR,Hq,Gz]at a;rcases a with rfl|a;exact h _;exact d _ x a
 exact c m 0 x a
theorem xQ{m:List (K×V)}:∀ {i:Nat},aidx m k i=none->aget m k=none:=by
 induction m with
 |nil=>intro i _;rfl
 |cons x m b=>intro i h;unfold aidx at h;unfold aget;split at h;cases h;rename_i a;rw[C' a];exact b h
theorem gQ{m:List (K×V)}:∀ {i j:Nat}{v:V},aidx m k i=some (j,v)->aget m k=some v/\∃ q,j=i+q/\m[q]? =some (k,v):=by
 induction m with
 |nil=>intro i j v h;cases h
 |cons x m c=>intro i j v h;unfold aidx at h;unfold aget;split at h;rename_i b;cases h;rw[E' b];exact⟨rfl,0,rfl,by simp[<-b]⟩;rename_i a;rw[C' a];obtain⟨e,q,f,d⟩:=c h;exact⟨e,q+1,by omega,by simpa using d⟩
theorem xJ{m:List (K×V)}{v:V}:∀ {i:Nat},aidx m k i=none->aset m k v=m++[(k,v)]:=by
 induction m with
 |nil=>intro i _;rfl
 |cons x m b=>intro i h;unfold aidx at h;unfold aset;split at h;cases h;rename_i a;rw[C' a,b h];rfl
theorem xI{m:List (K×V)}{v:V}:∀ {i j:Nat}{u:V},aidx m k i=some (j,u)->aset m k v=m.set (j-i) (k,v):=by
 induction m with
 |nil=>intro i j u h;cases h
 |cons x m b=>intro i j u h;obtain⟨_,q,f,_⟩:=gQ h;unfold aidx at h;unfold aset;split at h;rename_i d;simp only[osI,Gx]at h;rw[E' d,<-h.1];simp;rename_i a;obtain⟨_,e,c,_⟩:=gQ h;rw[C' a,b h,show j-i=(j-(i+1))+1 by omega,List.set_cons_succ]
theorem ff(kv:K->Value)(a:V->Value):∀ (m l:List (K×V)) (i:Nat),aR kv a (m++l) i=aR kv a m i++aR kv a l (i+m.length)
 | [],l,i=>by simp[aR]
 |x::m,l,i=>by simp only[HW,aR,ff kv a m l,GR];rw[show i+1+m.length=i+(m.length+1)by omega]
theorem iM(kv:K->Value)(a:V->Value):∀ (m:List (K×V)) (i q:Nat) (x:K×V),m[q]? =some x->(aR kv a m i)[q]? =some (kv x.1,a x.2,i+q)
 | [],i,q,x,h=>by simp at h
 |y::m,i,0,x,h=>by simp at h;subst h;rfl
 |y::m,i,q+1,x,h=>by have:=iM kv a m (i+1) q x (by simpa using h);simp only[aR,H0,this];rw[show i+1+q=i+(q+1)by omega]
theorem iL(kv:K->Value)(a:V->Value)(k:K)(v:V):∀ (m:List (K×V)) (i q:Nat),q<m.length->aR kv a (m.set q (k,v)) i=(aR kv a m i).set q (kv k,a v,i+q)
 | [],i,q,h=>by simp at h
 |y::m,i,0,h=>rfl
 |y::m,i,q+1,h=>by simp only[List.set_cons_succ,aR,iL kv a k v m (i+1) q (by simpa using h)];rw[show i+1+q=i+(q+1)by omega]
structure KeyOk (E:Env) (t kt et:TypeId) (kv:K->Value) (z:Value):Prop where
 und:AM.und E t=some (.map kt et)
 flat:∀ k,AM.flat (kv k)=true
 ok:∀ emp k,eZ E emp kt (kv k)=true
 eq:∃ kind,AM.und E kt=some kind/\((∀a b,jG kind (kv a) (kv b)=some (decide (a=b)))∨((∀a b,jG kind (kv a) (kv b)=none)/\∀ a b,oP E kt (kv a) (kv b)=some (decide (a=b))))
 bits:∀ k,Instr.sameBits 10000 (kv k) (kv k)=true
 zero:∃ i,E.ti et=some i/\i.zero=some z/\AM.flat z=true
theorem li{kind:TypeDesc}{kv:K->Value}{c:V->Value}(h:∀ a b,jG kind (kv a) (kv b)=some (decide (a=b)))(k:K):∀ (m:List (K×V)) (b i:Nat),
 eI kind (kv k) (aR kv c m b) i=some ((aidx m k i).map λx=>(x.1,c x.2))
 | [],b,i=>rfl
 |x::m,b,i=>by simp only[aR,eI,h];by_cases e:x.1=k;simp[aidx,e];have d:¬ k=x.1:=λh=>e h.symm;simp only[d,Ik,aidx,C' e];exact li h k m _ _
theorem iK{E:Env}{kt:TypeId}{kv:K->Value}{c:V->Value}(h:∀ a b,oP E kt (kv a) (kv b)=some (decide (a=b)))(k:K):∀ (m:List (K×V)) (b i:Nat),
 c7 E kt (kv k) (aR kv c m b) i=some ((aidx m k i).map λx=>(x.1,c x.2))
 | [],b,i=>rfl
 |x::m,b,i=>by simp only[aR,c7,h];by_cases e:x.1=k;simp[aidx,e];have d:¬ k=x.1:=λh=>e h.symm;simp only[d,Ik,aidx,C' e];exact iK h k m _ _
theorem lg(h:KeyOk E t kt et kv z)(b:V->Value)(k:K)(m:List (K×V)):
 iu E kt (kv k) (ents kv b m)=some ((aidx m k 0).map λx=>(x.1,b x.2)):=by
 obtain⟨a,d,e⟩:=h.eq;unfold iu ents;rw[d];simp only;rcases e with c|⟨c,f⟩;rw[li c];cases m with
 |nil=>rfl
 |cons x m=>
 have:eI a (kv k) (aR kv b (x::m) 0) 0=none:=by simp only[aR,eI,c]
 rw[this];exact iK f k (x::m) 0 0
theorem jX(h:KeyOk E t kt et kv z)(a:V->Value)(k:K)(m:List (K×V)):
 cu E t (ents kv a m) (kv k)=some (match aget m k with|some v=>(a v,true)|none=>(z,false)):=by
 obtain⟨i,e,d,c⟩:=h.zero;unfold cu;rw[h.und];simp only[h.flat,h.ok,HJ,D',lg h a k m];cases b:aidx m k 0 with
 |none=>rw[xQ b];simp only[Jp,e,d,c,D']
 |some x=>obtain⟨j,v⟩:=x;rw[(gQ b).1];rfl
theorem lJ(h:KeyOk E t kt et kv z)(a:V->Value)(k:K)(v:V)(m:List (K×V)):
 ba E t (ents kv a m) m.length (kv k) (a v)=some (ents kv a (aset m k v),(aset m k v).length):=by
 unfold ba;rw[h.und];simp only[h.flat,h.ok,HJ,D',lg h a k m];cases d:aidx m k 0 with
 | none=>
  rw[xJ d];simp only[Jp];have:aR kv a (m++[(k,v)]) 0=aR kv a m 0++[(kv k,a v,m.length)]:=by rw[ff];simp[aR]
  simp only[ents,this,Gr,GR,Iq]
 |some x=>
 obtain⟨j,u⟩:=x;obtain⟨_,q,g,e⟩:=gQ d;rw[xI d];have c:j=q:=by omega
 subst c;have f:nth (ents kv a m) j=some (kv k,a u,j):=by rw[aS];have:=iM kv a m 0 j _ e;simpa[ents]using this
 simp only[Hz,f,h.bits,D',JK,GF];have b:j<m.length:=(Gw.1 e).1;have:=iL kv a k v m 0 j b;simp only[ents,this,HO]
end
end Go.MK
namespace Go.AM
noncomputable section
variable {A A0 A1 A2 N:AH}{o o1:AObj}{c:Code}{E:Env}{fn:Func}{f:FuncId}{m:Ld}{ws:Lg}{args els tl:Lh}{p:Li}{B B2 d k k1 n nx:Nat}{ρ ρ' ρf:Nat->Lk}{g:Nat->Option AObj}{NL:Nat->Prop}{P:Program}{X:SX}{σ:Sig}{t1 tA:T AObj}{F:T Value}{e:TypeId}{ar:TypeId->Lk}{v v' v2:Value}{w w':World}
def kH(X:SX)(d:Nat)(n:Nat)(A0:AH):Lg->Code->KX->KX
 | [],_,K=>K
 | i::p,c,K=>match c with
   | .seq a b=>bif Nat.beq i 0 then kH X d n A0 p a (Then (λF A=>sx X d A0 n b F A K) K)else kH X d n A0 p b K
   | .cond _ a b=>bif Nat.beq i 0 then kH X d n A0 p a K else kH X d n A0 p b K
   | .block id b=>kH X d n A0 p b (Blk id K)
   | .scope b=>kH X d n A0 p b K
   |_=>K
def LAtZ(X:SX)(d n:Nat)(A0:AH)(c:Code)(p:Lg)(K:KX)(F:T Value)(A:AH):Prop:=Leaf (W X.E A0 n (subC p c) (kH X d n A0 p c K) F A)
def stepZ(X:SX)(d n:Nat)(A0:AH)(c:Code)(p:Lg)(K:KX)(ns:List (NPos×TypeId×Nat))(zs:List NPos)(ws slots:Lg)(again:KF):KX:=Then (λF' A'=>uq X.E ns zs ws slots F' A' again) (kH X d n A0 p c K)
def Cc(X:SX)(d n:Nat)(A0:AH)(c:Code)(p:Lg)(K:KX)(ns:List (NPos×TypeId×Nat))(zs:List NPos)(ws slots:Lg)(again:KF)(F:T Value)(A:AH):Prop:=sx X d A0 n (ak (subC p c)) F A (stepZ X d n A0 c p K ns zs ws slots again)
theorem LAtZ.step{X:SX}(i:X.Ok){d n:Nat}{A0:AH}(u:A0.next=0){c:Code}{p:Lg}{K:KX}{F:T Value}{A:AH}(ns:List (NPos×TypeId×Nat))(zs:List NPos)(ws slots:Lg)(j:iI (subC p c)=true)(I:Nat->T Value->AH->Prop)
 (b:∀ k F A,I k F A->Cc X d n A0 c p K ns zs ws slots (λF1 A1=>∃ a,a<k/\I a F1 A1) F A) {k:Nat}(h:I k F A):LAtZ X d n A0 c p K F A:=by
 refine .mk ?_;rw[jV j];refine W.loopT I (λk F A l=>?_) h Turns.refl;refine(jt i (b k F A l)).mono λx y z q=>?_;cases x with
 |normal=>have q:uq X.E ns zs ws slots y z (λF1 A1=>∃ a,a<k/\I a F1 A1):=q;obtain⟨F1,A1,⟨a,t,s⟩,r⟩:=qE (E:=X.E) i.ok i.gl (A0:=A0) u (n:=n) q;exact⟨a,F1,A1,t,s,r⟩
 |exit id=>exact q
 |ret=>exact q
def stepF(X:SX)(d n:Nat)(A0:AH)(c:Code)(p:Lg)(K:KX)(ns:List (NPos×TypeId×Nat))(zs:List NPos)(ws slots:Lg)(again:KF):KX:=Then (λF' A'=>eM A0.next X.E ns zs ws slots F' A' again) (kH X d n A0 p c K)
def aI(X:SX)(d n:Nat)(A0:AH)(c:Code)(p:Lg)(K:KX)(ns:List (NPos×TypeId×Nat))(zs:List NPos)(ws slots:Lg)(again:KF)(F:T Value)(A:AH):Prop:=sx X d A0 n (ak (subC p c)) F A (stepF X d n A0 c p K ns zs ws slots again)
theorem LAtZ.stepF(i:X.Ok){p:Lg}{K:KX}(ns:List (NPos×TypeId×Nat))(zs:List NPos)(ws slots:Lg)(j:iI (subC p c)=true)(I:Nat->T Value->AH->Prop)
 (b:∀ k F A,I k F A->aI X d n A0 c p K ns zs ws slots (λF1 A1=>∃ a,a<k/\I a F1 A1) F A) (h:I k F A):LAtZ X d n A0 c p K F A:=by
 refine .mk ?_;rw[jV j];refine W.loopT I (λk F A l=>?_) h Turns.refl;refine(jt i (b k F A l)).mono λu x y q=>?_;cases u with
 | normal=>
  have q:eM A0.next X.E ns zs ws slots x y (λF1 A1=>∃ a,a<k/\I a F1 A1):=q
  obtain⟨F1,A1,⟨a,t,s⟩,r⟩:=cS (E:=X.E) i.ok i.gl (A0:=A0) (n:=n) q;exact⟨a,F1,A1,t,s,r⟩
 |exit id=>exact q
 |ret=>exact q
def stepR(X:SX)(d n:Nat)(A0:AH)(c:Code)(p:Lg)(K:KX)(again:KF):KX:=Then again (kH X d n A0 p c K)
def Cd(X:SX)(d n:Nat)(A0:AH)(c:Code)(p:Lg)(K:KX)(again:KF)(F:T Value)(A:AH):Prop:=sx X d A0 n (ak (subC p c)) F A (stepR X d n A0 c p K again)
theorem LAtZ.stepR(r:X.Ok){p:Lg}{K:KX}(l:iI (subC p c)=true)(I:Nat->T Value->AH->Prop)
 (b:∀ k F A,I k F A->Cd X d n A0 c p K (λF1 A1=>∃ a,a<k/\∃ i A2,I a i A2/\Turns X.E A0 n F1 A1 i A2) F A) {F1:T Value}(h:I k F1 A1) (j:Turns X.E A0 n F A F1 A1):LAtZ X d n A0 c p K F A:=by
 refine .mk ?_;rw[jV l];refine W.loopT I (λk F A s=>?_) h j;refine(jt r (b k F A s)).mono λy z C q=>?_;cases y with
 |normal=>obtain⟨a,x,F1,A1,u,t⟩:∃ a,a<k/\∃ i A2,I a i A2/\Turns X.E A0 n z C i A2:=q;exact⟨a,F1,A1,x,u,t⟩
 |exit id=>exact q
 |ret=>exact q
theorem k9(C:E.Ok)(q:E.fn f=some fn)(i:fn.body=some c){Q:Value->AH->Prop}
 (h:cd args 0 .leaf=some F) (hb:args.length<=fn.ntmps) (S:W E A0 fn.ntmps c (Fin E fn Q) F A) {σ0:Sig}{w0:World}{a:Lh}(R:Rel E.P σ A w) (M:Glob E σ) (O:Ext σ0 A0 w0 σ A w) (G:VRs σ args a):
 Calls E.P f ⟨a⟩ w (λe w'=>∃ v v' A' σ',e=.returned v'/\Q v A'/\VR σ' v v'/\Rel E.P σ' A' w'/\Ext σ0 A0 w0 σ' A' w'):=by
 have D:=G.length;have x:FR σ F fn.ntmps {tmps:=(⟨a⟩:Array Value)++Array.replicate (fn.ntmps-(⟨a⟩:Array Value).size) undef,defers:=[]}:=by
  refine⟨by simp;omega,λt Z b=>?_,rfl⟩;unfold slot at b;rw[dW h t]at b;simp only;rw[Hb,IN];by_cases ht:t<args.length;rw[E' ⟨IF _,by omega⟩,JK]at b;rw[E' (by simp;omega)];obtain⟨u,Y,V⟩:=G.get b;have:(⟨a⟩:Array Value)[t]? =some u:=by simpa using Y
  rw[this];exact V;rw[C' (by omega)]at b;cases b
 refine calls_of_wp (C.fn f fn q) i (S σ0 w0 _ w ⟨σ,x,R,M,O⟩ _ λex F' A' H w' L s=>?_);obtain⟨r,v,l,U⟩:=L;obtain⟨σ',z,y,_,K⟩:=s;obtain⟨v',J,I⟩:=gZ C y z l;have j:H.defers=[]/\∃ u,(results fn H.tmps).run E.P w'=.ok u w'/\(λe w'=>∃ v v' A' σ',e=Ending.returned v'/\Q v A'/\VR σ' v v'/\Rel E.P σ' A' w'/\Ext σ0 A0 w0 σ' A' w') (.returned u) w':=⟨z.defers,v',J,v,v',A',σ',rfl,U,I,y,K⟩;rcases r with rfl|rfl<;>exact j
theorem RVs.move:∀ {l l1:Lh},RVs ρ l l1->∀ {l':Lh},VRs σ l l'->VRs (sigT ρ σ) l1 l'
 |_,_,.nil,_,.nil=>.nil
 |_,_,.cons h t,_,.cons a b=>.cons (h.move _ a) (RVs.move t b)
theorem Rel.ren(R:Rel P σ A w){O:List (Nat×AObj)}(H:bn nx m=true)(hh:ofL O .leaf=some t1)(Y:RenH m A O):Rel P (sigT (back m) σ) ⟨t1,nx⟩ w:=by
 have i:∀ {a:Nat}{o1:AObj},t1.get a=some o1->∃ B o,back m a=some B/\A.t.get B=some o/\RO (back m) o o1:=λh=>by rcases dz hh h with h|h;exact Y.mem h;simp[T.get]at h
 refine⟨?_,?_,?_,?_,R.ro,?_,λa h=>?_⟩;intro a o1 h q;obtain⟨B,o,l,j,r⟩:=i h;rcases R.obj0 B o j (by rw[<-r.here];exact q)with⟨b,d,c,L,K⟩|⟨L,K⟩;exact .inl ⟨b,d,c,dt l L,r.move K⟩;exact .inr ⟨r.nilOk.trans L,B,l,K⟩;intro B1 B2 o1 o2 V x2 l j C I G y u;obtain⟨C1,p1,U,a2,a3⟩:=i l;obtain⟨C2,Z,S,b2,b3⟩:=i j;obtain⟨D1,s,M⟩:=bP y;obtain⟨D2,Q,e2⟩:=bP u;rw[U]at s;cases s;rw[S]at Q;cases Q;exact R.inj C1 C2 p1 Z V x2 a2 b2 (by rw[<-a3.own];exact C) (by rw[<-b3.here];exact I) (λe=>by subst e;exact G (dq H U S)) M e2;intro a x z;obtain⟨B,_,j⟩:=bP z;exact R.lt B x j;intro a J;show(back m a).bind σ.f=none;cases hb:back m a with
 |none=>rfl
 |some B=>exact absurd (cB H (aY hb)) (by simp at J;omega)
 intro a o1 x h C z;obtain⟨B,o,l,j,r⟩:=i h;obtain⟨D,s,M⟩:=bP z;rw[l]at s;cases s;exact R.sep B o x j (by rw[<-r.own];exact C) M;obtain⟨B,l,j⟩:=h;refine⟨cB H (aY l),?_⟩;show(back m a).bind σ.f=none;rw[l];exact(R.nl B j).2
def gvn(σ:Sig)(m:Ld)(b:Nat):Prop:=∃ x∈m,∃y,σ x.2=some y/\y.1=b
open Classical in
theorem Rel.more{P:Program}{σ:Sig}{A:AH}{w w':World}(R:Rel P σ A w)(h:∀ b,b<w.heap.size->w'.heap[b]? =w.heap[b]?)(l:w.heap.size<=w'.heap.size):Rel P σ A w':=by refine⟨λB o r q=>?_,R.inj,λB x j=>HC (R.lt B x j) l,R.fresh,λb o i=>?_,R.sep,R.nl⟩;rcases R.obj0 B o r q with⟨b,d,c,a,s⟩|a;exact .inl ⟨b,d,c,a,by rw[h b (R.lt B _ a)];exact s⟩;exact .inr a;rw[h b (k7 (R.ro b o i))];exact R.ro b o i
theorem Ext.more(h:∀ b,b<w.heap.size->w'.heap[b]? =w.heap[b]?)(l:w.heap.size<=w'.heap.size)(t:w'.os=w.os)(s:w'.tape=w.tape)(r:w'.output=w.output):Ext σ A w σ A w':=
 ⟨λ_ _=>rfl,GE _,l,λb q _=>h b q,λB o x j i a=>.inr ⟨B,o,x,j,i,a,rfl⟩,λB o x j i a=>.inr ⟨B,o,x,j,i,a,rfl⟩,t,s,r,λ_ _ h=>h,λ_ _ h=>.inl h,λ_ _=>I6⟩
abbrev _root_.Go.Hk:=@Classical.byContradiction
abbrev _root_.Go.Jt:=@or_false
open Classical in
def sigF(σ σ2:Sig)(N:Nat)(m m2:Ld)(w:World):Sig:=
 ⟨λB=>if B<N then σ.f B else(back m2 B).bind σ2.f,λb=>if b<w.heap.size/\¬ gvn σ m b then σ.ro b else σ2.ro b,λB=>if B<N then σ.nl B else ∃j,back m2 B=some j/\σ2.nl j⟩
theorem tS{a:Sig}{u:Ld}{lh lo:List (Nat×AObj)}(R:Rel P σ A w)
 (hm:bn k m=true) (hk:∀ i,i<k->∃ B,back m i=some B) (hh:ofL lh .leaf=some t1) (rh:RenH m A lh) (a5:∀ x∈m,∃o,A.t.get x.2=some o/\o.own=true)
 (R2:Rel P a A2 w') (X:Ext (sigT (back m) σ) ⟨t1,k⟩ w a A2 w') (d7:VR a v2 v')
 (c1:bn nx u=true) (hN:A.next<=nx) (d6:∀ i B,i<k->back m i=some B->back u B=some i) (d3:∀ x∈u,x.2<k∨A.next<=x.1) (rl:RenH u A2 lo) (hv:RV (back u) v2 v)
 (d2:∀ B o,tA.get B=some o->(B,o)∈lo∨((∀x∈m,x.2≠B)/\A.t.get B=some o)):
 ∃σ',VR σ' v v'/\Rel P σ' ⟨tA,nx⟩ w'/\Ext σ A w σ' ⟨tA,nx⟩ w':=by
 have d9:∀ x∈m,x.1<k:=λx r=>cB hm (B':=x.1) (B:=x.2) r;have e0:∀ {B':Nat}{x:Nat×Nat×Nat},(sigT (back m) σ) B'=some x->∃ B,back m B'=some B/\σ B=some x:=λh=>bP h;have d0:∀ {V:Nat}{x:Nat×Nat×Nat},(sigT (back m) σ) V=some x->gvn σ m x.1:=fun {V x} h2=>by obtain⟨B,s,hs⟩:=bP h2;exact⟨_,aY s,x,hs,rfl⟩
 have a7:∀ b,b<w.heap.size->¬ gvn σ m b->w'.heap[b]? =w.heap[b]?:=λb s hn=>X.frame b s λV o x h1 h2 h3 e=>hn (e▸d0 h3);have d1:∀ b o,σ.ro b=some o->¬ gvn σ m b:=λb o h ⟨x,r,y,hy,e⟩=>by obtain⟨o',a8,a6⟩:=a5 x r;have:=R.sep x.2 o' y a8 a6 hy;rw[e,h]at this;cases this
 have U:∀ {b:Nat},gvn σ m b->∃ V o0 x0,A.t.get V=some o0/\o0.own=true/\σ V=some x0/\x0.1=b:=fun {b} ⟨x,r,y,hy,e⟩=>by obtain⟨o',a8,a6⟩:=a5 x r;exact⟨x.2,o',y,a8,a6,hy,e⟩
 have d4:∀ B o,A.t.get B=some o->o.here=true->B<A.next:=λB o h M=>by
  rcases R.obj0 B o h M with⟨b,d,c,H,_⟩|⟨_,C⟩;rcases Hc B A.next with q|q
  exact q;rw[R.fresh B q]at H;cases H;exact(R.nl B C).1
 have L:∀ j o x,A2.t.get j=some o->o.here=true->a j=some x->¬ (x.1<w.heap.size/\¬ gvn σ m x.1):=λj o x ho M r ⟨q1,Z⟩=>by rcases X.orig2 j o x ho M r with k1|⟨V,o0,x0,k1,k2,k3,k4⟩;omega;exact Z (k4▸d0 k3)
 have l:∀ B,B<A.next->(sigF σ a A.next m u w) B=σ B:=λB h=>E' h
 have a9:∀ B,¬B<A.next->(sigF σ a A.next m u w) B=(back u B).bind a.f:=λB h=>C' h
 have Q:∀ B,B<A.next->((sigF σ a A.next m u w).nl B↔σ.nl B):=λB h=>by show(if B<A.next then σ.nl B else _)↔_;rw[E' h]
 have c6:∀ B,¬B<A.next->((sigF σ a A.next m u w).nl B↔∃ j,back u B=some j/\a.nl j):=λB h=>by show(if B<A.next then σ.nl B else _)↔_;rw[C' h]
 have J:∀ b,b<w.heap.size/\¬ gvn σ m b->(sigF σ a A.next m u w).ro b=σ.ro b:=λb h=>E' h;have a0:∀ b,¬(b<w.heap.size/\¬ gvn σ m b)->(sigF σ a A.next m u w).ro b=a.ro b:=λb h=>C' h;have D:∀ B j,back u B=some j->(sigF σ a A.next m u w) B=a j/\((sigF σ a A.next m u w).nl B↔a.nl j):=λB j s=>by
  by_cases S:B<A.next
  have hj:j<k:=by rcases d3 _ (aY s)with q|q;exact q;exact absurd S (by simpa using q)
  obtain⟨V,c3⟩:=hk j hj;have e:=dq c1 s (d6 j V hj c3);subst e;have e1:a j=(sigT (back m) σ) j:=X.sig j hj;have e2:(sigT (back m) σ) j=σ B:=by show(back m j).bind σ.f=σ.f B;rw[c3];rfl
  refine⟨by rw[l B S,e1,e2],(Q B S).trans ?_⟩;refine Iff.trans ⟨λh=>⟨B,c3,h⟩,λ⟨B',h1,h2⟩=>?_⟩ (X.snl j hj).symm;rw[c3]at h1;cases h1;exact h2;refine⟨by rw[a9 B S,s];rfl,(c6 B S).trans ⟨λ⟨j',h1,h2⟩=>?_,λh=>⟨j,s,h⟩⟩⟩;rw[s]at h1;cases h1;exact h2
 have c5:σ.sub (sigF σ a A.next m u w):=⟨λB x h=>by
  have S:B<A.next:=by
   rcases Hc B A.next with q|q
   exact q;have:=R.fresh B q;have h:σ B=some x:=h;rw[this]at h;cases h
  exact(l B S).trans h,λb o h=>(J b ⟨k7 (R.ro b o h),d1 b o h⟩).trans h⟩
 have c4:(sigT (back u) a).sub (sigF σ a A.next m u w):=⟨λB x h=>by
  obtain⟨j,s,hs⟩:=bP h;exact(D B j s).1.trans hs,λb o h=>by
  have h:a.ro b=some o:=h;by_cases hc:b<w.heap.size/\¬ gvn σ m b;refine(J b hc).trans ?_;rcases X.rog b o h with q|q|⟨V,o0,x0,k1,k2,k3,k4⟩;exact q;exact absurd hc.1 (by omega);exact absurd (k4▸d0 k3) hc.2;exact(a0 b hc).trans h⟩
 have c0:∀ B o x,(∀y∈m,y.2≠B)->A.t.get B=some o->o.here=true->σ B=some x->x.1<w.heap.size/\¬ gvn σ m x.1:=λB o x b5 h M r=>⟨R.lt B x r,λ⟨y,hy,z,hz,e⟩=>by obtain⟨o',a8,a6⟩:=a5 y hy;exact R.inj y.2 B o' o z x a8 h a6 M (b5 y hy) hz r e⟩
 have O:∀ B o,tA.get B=some o->o.here=true->(∃j G,back u B=some j/\A2.t.get j=some G/\RO (back u) G o/\G.here=true)∨((∀x∈m,x.2≠B)/\A.t.get B=some o/\B<A.next):=λB o h M=>by rcases d2 B o h with q|⟨q1,Z⟩;obtain⟨j,G,H,C,I⟩:=rl.mem q;exact .inl ⟨j,G,H,C,I,by rw[<-I.here];exact M⟩;exact .inr ⟨q1,Z,d4 B o Z M⟩
 refine⟨sigF σ a A.next m u w,(hv.move v' d7).mono c4,⟨λB o h hh=>?_,λB1 B2 o1 G x1 x2 h1 h2 b0 c2 b5 Y K=>?_,λB x h=>?_,λB h=>?_,λb o h=>?_,λB o x h ho r=>?_,λB h=>?_⟩,⟨λB h=>l B h,hN,X.size,λb s hn=>a7 b s λd5=>?_,λB o x h ho r=>?_,λB o x h ho r=>?_,X.os,X.tape,X.output,c5.ro,λb o h=>?_,λB h=>Q B h⟩⟩;rcases O B o h hh with⟨j,G,H,C,I,g4⟩|⟨H,C,I⟩;rcases R2.obj0 j G C g4 with⟨b,d,c,q1,Z⟩|⟨q1,Z⟩;exact .inl ⟨b,d,c,(D B j H).1.trans q1,(I.move Z).mono c4⟩;exact .inr ⟨I.nilOk.trans q1,(D B j H).2.2 Z⟩;rcases R.obj0 B o C hh with⟨b,d,c,q1,Z⟩|⟨q1,Z⟩;refine .inl ⟨b,d,c,(l B I).trans q1,?_⟩;have:=c0 B o _ H C hh q1;rw[a7 b this.1 this.2];exact Z.mono c5;exact .inr ⟨q1,(Q B I).2 Z⟩;rcases O B1 o1 h1 (AObj.here_of_own b0)with⟨j1,p1,a1,a2,a3,a4⟩|⟨a1,a2,a3⟩;rw[(D B1 j1 a1).1]at Y;rcases O B2 G h2 c2 with⟨j2,p2,b1,b2,b3,b4⟩|⟨b1,b2,b3⟩;rw[(D B2 j2 b1).1]at K;exact R2.inj j1 j2 p1 p2 x1 x2 a2 b2 (by rw[<-a3.own];exact b0) b4 (λe=>by subst e;exact b5 (dq c1 a1 b1)) Y K;rw[l B2 b3]at K;intro e;exact L j1 p1 x1 a2 a4 Y (e▸c0 B2 G x2 b1 b2 c2 K);rw[l B1 a3]at Y;rcases O B2 G h2 c2 with⟨j2,p2,b1,b2,b3,b4⟩|⟨b1,b2,b3⟩;rw[(D B2 j2 b1).1]at K;intro e;exact L j2 p2 x2 b2 b4 K (e▸c0 B1 o1 x1 a1 a2 (AObj.here_of_own b0) Y);rw[l B2 b3]at K;exact R.inj B1 B2 o1 G x1 x2 a2 b2 b0 c2 b5 Y K;by_cases S:B<A.next
 rw[l B S]at h;exact HC (R.lt B x h) X.size;rw[a9 B S]at h;cases s:back u B with
 |none=>rw[s]at h;cases h
 |some j=>rw[s]at h;exact R2.lt j x h
 have h:nx<=B:=h;rw[a9 B (by omega)];cases s:back u B with
 |none=>rfl
 |some j=>exact absurd (cB c1 (aY s)) (by omega)
 by_cases s:b<w.heap.size/\¬ gvn σ m b;rw[J b s]at h;rw[a7 b s.1 s.2];exact R.ro b o h;rw[a0 b s]at h;exact R2.ro b o h;rcases O B o h (AObj.here_of_own ho)with⟨j,G,H,C,I,g4⟩|⟨H,C,I⟩;rw[(D B j H).1]at r;rw[a0 _ (L j G x C g4 r)];exact R2.sep j G x C (by rw[<-I.own];exact ho) r;rw[l B I]at r;rw[J _ (c0 B o x H C (AObj.here_of_own ho) r)];exact R.sep B o x C ho r;by_cases S:B<A.next
 have:=R.nl B ((Q B S).1 h);exact⟨HC this.1 hN,(l B S).trans this.2⟩;obtain⟨j,h1,h2⟩:=(c6 B S).1 h;exact⟨cB c1 (aY h1),(D B j h1).1.trans (R2.nl j h2).2⟩;obtain⟨V,o0,x0,k1,k2,k3,k4⟩:=U d5;exact hn V o0 x0 k1 k2 k3 k4;rcases O B o h (AObj.here_of_own ho)with⟨j,G,H,C,I,g4⟩|⟨H,C,I⟩;rw[(D B j H).1]at r;rcases Hc x.1 w.heap.size with q|q;exact .inr (U (Hk λhn=>L j G x C g4 r ⟨q,hn⟩));exact .inl q;rw[l B I]at r;exact .inr ⟨B,o,x,C,ho,r,rfl⟩;rcases O B o h ho with⟨j,G,H,C,I,g4⟩|⟨H,C,I⟩;rw[(D B j H).1]at r;rcases Hc x.1 w.heap.size with q|q;obtain⟨V,o0,x0,k1,k2,k3,k4⟩:=U (Hk λhn=>L j G x C g4 r ⟨q,hn⟩);exact .inr ⟨V,o0,x0,k1,AObj.here_of_own k2,k3,k4⟩;exact .inl q;rw[l B I]at r;exact .inr ⟨B,o,x,C,ho,r,rfl⟩;by_cases s:b<w.heap.size/\¬ gvn σ m b;rw[J b s]at h;exact .inl h;rcases Hc b w.heap.size with q|q;exact .inr (.inr (U (Hk λhn=>s ⟨q,hn⟩)));exact .inr (.inl q)
def EndF(E:Env)(A1:AH)(v:Value)(N:AH):KV:=λv2 A2=>∃ F2 F1,T.set FU .leaf 0 v2=some F2/\F1.get 0=some v/\Turns E A1 1 F2 A2 F1 N
def WalkF(E:Env)(fn:Func)(args:Lh)(A1:AH)(v:Value)(N:AH):Prop:=
 ∃c F,fn.body=some c/\Nat.ble args.length fn.ntmps=true/\cd args 0 .leaf=some F/\W E A1 fn.ntmps c (Fin E fn (EndF E A1 v N)) F A1
def endF(E:Env)(A1:AH)(ns:List (NPos×TypeId×Nat))(zs:List NPos)(ws:Lg)(Q:Value->AH->Prop):KV:=λv2 A2=>match T.set FU .leaf 0 v2 with
 |some F2=>eM A1.next E ns zs ws [0] F2 A2 (λF1 N=>match F1.get 0 with|some v=>Q v N|none=>False)
 |none=>False
theorem qm(j:E.Ok)(a:GlOk E){ns:List (NPos×TypeId×Nat)}{zs:List NPos}(h:endF E A1 ns zs ws (λv1 i=>v1=v/\i=N) v2 A2):EndF E A1 v N v2 A2:=by unfold endF at h;split at h;rename_i r b;obtain⟨s,i,k,q⟩:=cS j a (n:=1) h;split at k;rename_i v1 l;obtain⟨rfl,rfl⟩:=k;exact⟨r,s,b,l,q⟩;exact k.elim;exact h.elim
def bh(X:SX)(d:Nat)(fn:Func)(args:Lh)(A1:AH)(K:KV):Prop:=match fn.body with
 | some c=>(match cd args 0 .leaf with
   |some F=>bif Nat.ble args.length fn.ntmps then sxC X (inlN X d) A1 fn.ntmps c F A1 (finK X.E fn.results.toList K)else False
   |none=>False)
 |none=>False
theorem aJ(b:X.Ok){ns:List (NPos×TypeId×Nat)}{zs:List NPos}(h:bh X d fn args A1 (endF X.E A1 ns zs ws (λv1 t=>v1=v/\t=N))):WalkF X.E fn args A1 v N:=by unfold bh at h;split at h;rename_i c r;split at h;rename_i F s;cases a:Nat.ble args.length fn.ntmps;rw[a]at h;exact h.elim;rw[a]at h;refine⟨c,F,r,a,s,(jt b (d:=d) h).mono λu x y q=>?_⟩;obtain⟨l,v2,j,i⟩:=ga q;exact⟨l,v2,j,qm b.ok b.gl i⟩;exact h.elim;exact h.elim
theorem CallAt.tell(h:CallAt E f args A1 v2 A2)(G:EndF E A1 v N v2 A2):CallAt E f args A1 v N:=by
 intro σ w a R C H;refine(h σ w a R C H).mono λM w' r=>?_;obtain⟨v',i,rfl,s,L,X⟩:=r;obtain⟨O,Q,y,z,D⟩:=G;have q:Glob E i:=Glob.sub (σ:=σ) (λg I h=>C g I h) (ExtG.sub R X);have j:=Hl y;obtain⟨l,x,K,_,J⟩:=D _ w ⟨#[v'],[]⟩ w' ⟨i,⟨rfl,λt u b=>by unfold slot at b;rw[j]at b;by_cases e:t=0;subst e;rw[E' rfl]at b;cases b;exact s;rw[C' e]at b;simp[T.get]at b,rfl⟩,L,q,X⟩
 exact⟨v',l,rfl,x.val 0 v z,K,J⟩
theorem WalkF.call(J:E.Ok)(x:E.fn f=some fn)(K:WalkF E fn args A1 v N):CallAt E f args A1 v N:=by
 intro σ w G R H O;obtain⟨I,F,b,q,a,Q⟩:=K;refine(k9 J x b a (Ic q) Q R H (Ext.refl _ _ _) O).mono λZ w' M=>?_;obtain⟨v2,v',A2,j,rfl,⟨F2,F1,C,D,L⟩,y,Y,X⟩:=M;have s:Glob E j:=Glob.sub (σ:=σ) (λg S h=>H g S h) (ExtG.sub R X);have l:=Hl C;obtain⟨r,z,V,_,U⟩:=L _ w ⟨#[v'],[]⟩ w' ⟨j,⟨rfl,λt u i=>by unfold slot at i;rw[l]at i;by_cases e:t=0;subst e;rw[E' rfl]at i;cases i;exact y;rw[C' e]at i;simp[T.get]at i,rfl⟩,Y,s,X⟩
 exact⟨v',r,rfl,z.val 0 v D,V,U⟩
theorem o5{a:Lh}{j:Ld}{G lo:List (Nat×AObj)}{C:Value}
 (H:bn k m=true) (V:∀ i,i<k->∃ B,back m i=some B) (I:ofL G .leaf=some t1) (D:RenH m A G) (L:RVs (back m) args a) (l:∀ x∈m,∃o,A.t.get x.2=some o/\o.own=true)
 (S:CallAt E f a ⟨t1,k⟩ C N)
 (u:bn nx j=true) (hN:A.next<=nx) (y:∀ i B,i<k->back m i=some B->back j B=some i) (s:∀ x∈j,x.2<k∨A.next<=x.1) (K:RenH j N lo) (U:RV (back j) C v)
 (r:∀ B o,tA.get B=some o->(B,o)∈lo∨((∀x∈m,x.2≠B)/\A.t.get B=some o)):CallAt E f args A v ⟨tA,nx⟩:=by intro σ w b R Y ha;have R1:=R.ren H I D;refine(S _ w b R1 (λg cs h=>Y g cs h) (L.move ha)).mono λen w' Z=>?_;obtain⟨v',J,rfl,z,R3,X3⟩:=Z;obtain⟨q,Q,O,M⟩:=tS R H V I D l R3 X3 z u hN y s K U r;exact⟨v',q,rfl,Q,O,M⟩
def kA(ar:TypeId->Lk)(m:Ld)(o:AObj):Option (Lh×AObj):=
 match o with
 | .cells c e=>(match ar e with
   |some n=>bif Nat.ble n c.length then(match renL (renV m 8) (c.drop n)with|some r=>some (.agg ⟨c.take n⟩::r.1,.arr (c.take n) r.2 n e)|none=>none)else none
   |none=>renO m (.cells c e))
 | .gro els tl e=>some ([.agg ⟨glue els tl⟩],.gro (glue els tl) [] e)
 | .map es k=>some ([.agg ⟨es.map λx=>x.2.1⟩],.map es k)
 |o=>renO m o
theorem iW{r:Lh×AObj}(h:kA ar m o=some r)(a:∀ x∈r.1,HF x):RO (back m) o r.2:=by unfold kA at h;split at h;rename_i c e;split at h;rename_i n s;cases i:Nat.ble n c.length;rw[i]at h;cases h;rw[i]at h;simp only[D']at h;split at h;rename_i q j;cases h;rw[GI]at i;have:=RO.toArr (ρ:=back m) (els:=c.take n) (rest:=c.drop n) (n:=n) (e:=e) (by rw[Hd];omega) (λx b=>lF (a _ (by simp)) x b) (cU (cr 8) j λx b=>a x (by simp[b]));rw[IM]at this;exact this;cases h;exact lY h a;rename_i els tl e;exact lX (o:=.gro els tl e) (by simpa[renW]using h) a;rename_i l k;exact lX (o:=.map l k) (by simpa[renW]using h) a;exact lY h a
def CZ(ar:TypeId->Lk)(m:Ld)(A:AH)(l:Ld):Option (Lh×List (Nat×AObj)):=
 List.rec (motive:=λ_=>Option (Lh×List (Nat×AObj))) (some ([],[])) (λx _ ih=>match A.t.get x.2 with
  | some o=>bif o.own then(match kA ar m o with
    |some r=>(match ih with|some s=>some (r.1++s.1,(x.1,r.2)::s.2)|none=>none)
    |none=>none)else none
  |none=>none) l
theorem ri{ar:TypeId->Lk}{m:Ld}{A:AH}:∀ {l:Ld}{r},CZ ar m A l=some r->(∀x∈l,back m x.1=some x.2)->(∀x∈r.1,HF x)->RenH m A r.2/\(∀x∈l,∃o,A.t.get x.2=some o/\o.own=true)/\r.2.map (·.1)=l.map (·.1)
 | [],r,h,_,_=>by have h:some ([],[])=some r:=h;cases h;exact⟨.nil,λx a=>by simp at a,rfl⟩
 | t ::l,r,h,hb,hh=>by
  have h:(match A.t.get t.2 with
   | some o=>bif o.own then(match kA ar m o with
     |some r=>(match CZ ar m A l with|some s=>some (r.1++s.1,(t.1,r.2)::s.2)|none=>none)
     |none=>none)else none
   |none=>none)=some r:=h
  split at h;rename_i v i;cases b:v.own;rw[b]at h;cases h;rw[b]at h;simp only[D']at h;split at h;rename_i C z;split at h;rename_i s y;cases h;obtain⟨u,q,j⟩:=ri y (λx a=>hb x (by simp[a])) λx a=>hh x (by simp[a]);refine⟨.cons (hb t (by simp)) i (iW z λx a=>hh x (by simp[a])) u,λx a=>?_,by simp[j]⟩;rcases Gz.1 a with rfl|a;exact⟨v,i,b⟩;exact q x a;cases h;cases h;cases h
def C3(ar:TypeId->Lk)(m:Ld)(A:AH)(l:Ld):Option (Lh×List (Nat×AObj)):=
 List.rec (motive:=λ_=>Option (Lh×List (Nat×AObj))) (some ([],[])) (λx _ ih=>match A.t.get x.2 with
  | some o=>bif o.own|| !o.here then(match kA ar m o with
    |some r=>(match ih with|some s=>some (r.1++s.1,(x.1,r.2)::s.2)|none=>none)
    |none=>none)else none
  |none=>none) l
theorem rj{ar:TypeId->Lk}{m:Ld}{A:AH}:∀ {l:Ld}{r},C3 ar m A l=some r->(∀x∈l,back m x.1=some x.2)->(∀x∈r.1,HF x)->RenH m A r.2/\r.2.map (·.1)=l.map (·.1)
 | [],r,h,_,_=>by have h:some ([],[])=some r:=h;cases h;exact⟨.nil,rfl⟩
 | t ::l,r,h,hb,hh=>by
  have h:(match A.t.get t.2 with
   | some o=>bif o.own|| !o.here then(match kA ar m o with
     |some r=>(match C3 ar m A l with|some s=>some (r.1++s.1,(t.1,r.2)::s.2)|none=>none)
     |none=>none)else none
   |none=>none)=some r:=h
  split at h;rename_i v q;cases b:(v.own|| !v.here)with
  |false=>rw[b]at h;cases h
  |true=>rw[b]at h;simp only[D']at h;split at h;rename_i z y;split at h;rename_i s u;cases h;obtain⟨j,i⟩:=rj u (λx a=>hb x (by simp[a])) λx a=>hh x (by simp[a]);exact⟨.cons (hb t (by simp)) q (iW y λx a=>hh x (by simp[a])) j,by simp[i]⟩;cases h;cases h
  cases h
def outM(m:Ld)(nx:Nat)(k:Nat):Nat->Ld:=
 Nat.rec (motive:=λ_=>Ld) (m.map λx=>(x.2,x.1)) (λj ih=>(nx+j,k+j)::ih)
def setAll:List (Nat×AObj)->T AObj->Option (T AObj)
 | [],t=>some t
 |x::l,t=>match T.set FU t x.1 x.2 with|some t'=>setAll l t'|none=>none
theorem gW:∀ {l:List (Nat×AObj)}{t i:T AObj},setAll l t=some i->∀ {B:Nat}{o:AObj},i.get B=some o->(B,o)∈l∨((∀x∈l,x.1≠B)/\t.get B=some o)
 | [],t,i,h,B,o,a=>by simp only[setAll,osI]at h;subst h;exact .inr ⟨λx a=>by simp at a,a⟩
 | y::l,t,i,h,B,o,a=>by
  simp only[setAll]at h;split at h;rename_i t1 q;rcases gW h a with b|⟨j,b⟩;exact .inl (by simp[b]);rw[Hl q]at b;split at b;rename_i e;cases b;subst e;exact .inl (by simp);rename_i e;exact .inr ⟨λx a=>by rcases Gz.1 a with rfl|a;exact λr=>e r.symm;exact j x a,b⟩
  cases h
def wg(k:Nat)(l:List AObj):List (Nat×AObj):=List.rec (motive:=λ_=>Nat->List (Nat×AObj)) (λ_=>[]) (λo _ ih i=>(i,o)::ih (i+1)) l k
def aW(l:List AObj):AH:=match ofL (wg 0 l) .leaf with|some t=>⟨t,l.length⟩|none=>⟨.leaf,l.length⟩
def frmR (ar:TypeId->Lk)(spec:Lh->List AObj->Option (Ll×Value×List AObj)):RunF:=λargs A=>
 match numb (ta [] A 64 (ko (blks 8) args) []) 0 with
 | m => (match renL (renV m 8) args,CZ ar m A m with
   | some ra,some hs=>(match spec ra.2 (hs.2.map (·.2))with
     | some r=>bif ((bn (lenM m) m&&baks m)&&(ofL hs.2 .leaf).isSome)&&Nat.ble (lenM m) r.2.2.length then
      (match outM m A.next (lenM m) (r.2.2.length-lenM m)with
      | m2 =>(match renV m2 8 r.2.1,C3 (λ_=>none) m2 (aW r.2.2) m2 with
        | some rv,some ho=>bif bn (A.next+(r.2.2.length-lenM m)) m2&&baks m2 then(match setAll ho.2 A.t with
          |some tA=>some (some (HFs (ra.1++(hs.1++(rv.1++ho.1))) (PH r.1)),rv.2,⟨tA,A.next+(r.2.2.length-lenM m)⟩)
          |none=>none)else none
        |_,_=>none))else none
     |none=>none)
   |_,_=>none)
theorem mq:∀ (l:Lg) (i:Nat),(numb l i).map (·.1)=List.range' i l.length
 | [],i=>rfl
 |B::l,i=>by show i::(numb l (i+1)).map (·.1)=_;rw[mq l (i+1)];rfl
theorem mH:∀ (l:List (Nat×AObj)) (i:Nat),l.map (·.1)=List.range' i l.length->wg i (l.map (·.2))=l
 | [],i,_=>rfl
 |x::l,i,h=>by simp only[Hq,GR,I9,IA]at h;show(i,x.2)::wg (i+1) (l.map (·.2))=_;rw[mH l (i+1) h.2,<-h.1]
theorem pN:∀ m:Ld,lenM m=m.length
 | []=>rfl
 |x::m=>by show lenM m+1=_;rw[pN m];rfl
theorem mem_outM{m:Ld}{nx k:Nat}:∀ {n:Nat}{x:Nat×Nat},x∈outM m nx k n↔(∃y∈m,x=(y.2,y.1))∨∃ j,j<n/\x=(nx+j,k+j)
 |0,x=>by show x∈m.map (λy=>(y.2,y.1))↔_;simp only[Gv,Nat.not_lt_zero,false_and,exists_false,Jt];exact⟨λ⟨y,b,a⟩=>⟨y,b,a.symm⟩,λ⟨y,b,a⟩=>⟨y,b,a.symm⟩⟩
 | n+1,x=>by
  show x∈(nx+n,k+n)::outM m nx k n↔_;rw[Gz,mem_outM];constructor;rintro(h|h|⟨j,b,a⟩);exact .inr ⟨n,by omega,h⟩;exact .inl h;exact .inr ⟨j,by omega,a⟩;rintro(h|⟨j,b,a⟩);exact .inr (.inl h);rcases Hc j n with q|q;exact .inr (.inr ⟨j,q,a⟩);obtain rfl:j=n:=by omega
  exact .inl a
theorem nt(h:baks m=true):∀ x∈m,back m x.1=some x.2:=λx a=>by have:=G0.1 h x a;unfold bak at this;split at this;rename_i C b;rw[b,Gt this];cases this
theorem wH{z:Lh->List AObj->Option (Ll×Value×List AObj)}
 (h:∀ args C p v s,z args C=some (p,v,s)->PH p->CallAt E f args (aW C) v (aW s)):∀ args A p v A',frmR ar z args A=some (p,v,A')->PH p->CallAt E f args A v A':=by
 intro args A p v A' a hp;unfold frmR at a;simp only at a;generalize a8:ta [] A 64 (ko (blks 8) args) []=bs at a;have l:=mq bs 0;generalize a6:numb bs 0=m at a l;rw[pN]at a;have a1:m.length=bs.length:=by have:=Hu List.length l;simpa using this
 split at a;rename_i ra G Z a2;split at a;rename_i r V;cases R:((bn m.length m&&baks m)&&(ofL G.2 .leaf).isSome)&&Nat.ble m.length r.2.2.length;rw[R]at a;cases a;rw[R]at a;simp only[D']at a;simp only[f',GI,Js]at R;obtain⟨⟨⟨Q,a5⟩,t1,J⟩,a7⟩:=R;generalize L:outM m A.next m.length (r.2.2.length-m.length)=m2 at a
 split at a;rename_i rv ho Y a3;cases t:bn (A.next+(r.2.2.length-m.length)) m2&&baks m2;rw[t]at a;cases a;rw[t]at a;simp only[D']at a;rw[f']at t;split at a;rename_i tA U;cases a;obtain⟨u,a0⟩:=gn hp;have b1:=nt a5;have b2:=nt t.2;obtain⟨rh,K,O⟩:=ri a2 b1 λx b=>u x (by simp[b]);obtain⟨rl,a4⟩:=rj a3 b2 λx b=>u x (by simp[b]);have M:G.2.length=m.length:=by have:=Hu List.length O;simpa using this
 have e1:wg 0 (G.2.map (·.2))=G.2:=mH _ 0 (by rw[O,l,M,a1]);have I:=h ra.2 (G.2.map (·.2)) r.1 r.2.1 r.2.2 V a0;have e2:aW (G.2.map (·.2))=⟨t1,m.length⟩:=by unfold aW;rw[e1,J];simp[M]
 rw[e2]at I;have D:∀ y∈m,(y.2,y.1)∈m2:=λy H=>by rw[<-L];exact mem_outM.2 (.inl ⟨y,H,rfl⟩)
 refine o5 Q (λi hi=>?_) J rh (cU (cr 8) Z λx b=>u x (by simp[b])) K I t.1 (Ij _ _) (λi B hi hB=>b2 _ (D _ (aY hB))) (λx b=>?_) rl (cr 8 _ _ Y λx b=>u x (by simp[b])) (λB o hB=>?_);have:i∈m.map (·.1):=by rw[l,List.mem_range'];exact⟨i,by omega,by omega⟩
 obtain⟨x,b,rfl⟩:=Gv.1 this;exact⟨x.2,b1 x b⟩;rw[<-L]at b;rcases mem_outM.1 b with⟨y,H,rfl⟩|⟨j,hj,rfl⟩;exact .inl (cB Q (B':=y.1) (B:=y.2) H);exact .inr (Ij _ _);rcases gW U hB with q|⟨q1,q2⟩;exact .inl q;refine .inr ⟨λx b e=>?_,q2⟩;have:x.2∈ho.2.map (·.1):=by rw[a4];exact Gv.2 ⟨_,D x b,rfl⟩
 obtain⟨y,H,S⟩:=Gv.1 this;exact q1 y H (S.trans e);cases a;cases a;cases a;cases a
theorem be(l:E.Ok)(j:E.fn f=some fn){i:Lh->List AObj->Option (Ll×Value×List AObj)}
 (h:∀ args b p v a,i args b=some (p,v,a)->PH p->WalkF E fn args (aW b) v (aW a)):∀ args A p v A',frmR ar i args A=some (p,v,A')->PH p->CallAt E f args A v A':=
 wH λargs b p v a r q=>(h args b p v a r q).call l j
abbrev _root_.Go.GL:=@List.mem_cons_self
def fJ(v:Value):Prop:=v.cells.toList=[v]
theorem fA:∀ {els:Lh},(∀x∈els,fJ x)->an els=els
 | [],_=>rfl
 |x::l,h=>by rw[aV,fA (λy a=>h y (GJ _ a)),h x GL];rfl
inductive ROX (ρ:Nat->Lk):AObj->AObj->Prop
 |of {o o1:AObj}(h:RO ρ o o1):ROX ρ o o1
 |row {els tl els1:Lh}{e:TypeId}(h1:∀ x∈els++tl,fJ x) (h2:∀ x∈els1,fJ x) (h:RVs ρ (els++tl) els1):ROX ρ (.gro els tl e) (.gro els1 [] e)
 |shr {els tl:Lh}{e:TypeId}(k:Nat) (h:∀ x∈an (els++tl),HF x):ROX ρ (.gro els tl e) (.gro ((els++tl).take k) [] e)
theorem ROX.own(h:ROX ρ o o1):o1.own=o.own:=by
 cases h with
 |of h=>exact h.own
 |row=>rfl
 |shr=>rfl
theorem ROX.nilOk(h:ROX ρ o o1):o1.nilOk=o.nilOk:=by
 cases h with
 |of h=>exact h.nilOk
 |row=>rfl
 |shr=>rfl
theorem ROX.here(h:ROX ρ o o1):o1.here=o.here:=by
 cases h with
 |of h=>exact h.here
 |row=>rfl
 |shr=>rfl
theorem RVs.len:∀ {l l1:Lh},RVs ρ l l1->l1.length=l.length
 |_,_,.nil=>rfl
 |_,_,.cons _ t=>by simp[t.len]
theorem ROX.move{ob:Option Obj}{cp:Nat}(h:ROX ρ o o1)(t:OR P σ ob d cp o):OR P (sigT ρ σ) ob d cp o1:=by
 cases h with
 |of h=>exact h.move t
 |shr k h=>obtain⟨H,s,u,G,D,C,r,z,M⟩:=t;refine⟨H,s,u,G,D,λi v j=>?_,λx a=>?_,z,?_⟩;rw[GA,<-cf k r,GW]at j;split at j;obtain⟨v',Q,O⟩:=C i v j;exact⟨v',Q,HF.move (σ:=σ) (σ':=sigT ρ σ) (λ_ _ h=>h) (h v (GO j)) v' O⟩;cases j;rw[GA]at a;exact r x (H6 a);rw[GA,Hd];omega
 |row L K h=>
 obtain⟨H,s,u,G,D,C,r,z,M⟩:=t;refine⟨H,s,u,G,D,λi v1 b=>?_,λx a=>?_,z,?_⟩;rw[GA,fA K]at b;obtain⟨v,k1,U⟩:=h.get b;obtain⟨v',S,R⟩:=C i v (by rw[fA L];exact k1);exact⟨v',S,U.move _ R⟩;rw[GA]at a;have V:x.cells.size=1:=by have:=Hu List.length (K x a);simpa using this
 rename_i els tl q e;cases J:els++tl with
 |nil=>rw[J]at h;have:=h.len;have:q=[]:=GY (by simpa using this);rw[this]at a;cases a
 | cons y l=>
  have I:y∈els++tl:=by rw[J];exact GL
  have:=Hu List.length (L y I);rw[V,<-r y I];simpa using this.symm
 rw[GA,h.len];exact M
def sigX(ρ:Nat->Lk)(NL:Nat->Prop)(σ:Sig):Sig:=⟨λB=>(ρ B).bind σ.f,σ.ro,λB'=>(∃B,ρ B'=some B/\σ.nl B)∨NL B'⟩
theorem Cy(h:VR (sigT ρ σ) v v'):VR (sigX ρ NL σ) v v':=VR.mono (σ:=sigT ρ σ) (σ':=sigX ρ NL σ) ⟨λ_ _ h=>h,λ_ _ h=>h⟩ h
theorem Cz{ob:Option Obj}{c:Nat}(h:OR P (sigT ρ σ) ob d c o):OR P (sigX ρ NL σ) ob d c o:=OR.mono (σ:=sigT ρ σ) (σ':=sigX ρ NL σ) ⟨λ_ _ h=>h,λ_ _ h=>h⟩ h
theorem Turns.rhoX{F1:T Value}(a6:GlOk E)(ρ:Nat->Lk)(NL:Nat->Prop)(r:∀ B,NL B->ρ B=none/\B<nx)
 (q:∀ B,B<A0.next->ρ B=some B) (Y:A0.next<=nx) (H:∀ B' B,ρ B'=some B->B'<nx) (I:∀ Q B2 B o1 o2,t1.get Q=some o1->o1.own=true->t1.get B2=some o2->o2.here=true->ρ Q=some B->ρ B2=some B->Q=B2)
 (a0:∀ (t:Nat) (v1:Value),F1.get t=some v1->∃ v,F.get t=some v/\RV ρ v v1)
 (K:∀ (B':Nat) (o1:AObj),t1.get B'=some o1->(∃B o,ρ B'=some B/\A.t.get B=some o/\ROX ρ o o1)∨(NL B'/\o1.nilOk=true)):Turns E A0 n F A F1 ⟨t1,nx⟩:=by
 intro S w0 a w ⟨σ,hF,R,hg,X⟩;have hx:∀ {B' x},(sigX ρ NL σ) B'=some x->∃ B,ρ B'=some B/\σ B=some x:=λh=>bP (ρ:=ρ) (σ:=σ) h;have L:∀ {B' o1 x},t1.get B'=some o1->(sigX ρ NL σ) B'=some x->∃ B o,ρ B'=some B/\A.t.get B=some o/\ROX ρ o o1/\σ B=some x:=fun {B' o1 x} h hs=>by obtain⟨B,i,j⟩:=hx hs;rcases K _ _ h with⟨C,o,z,O,g3⟩|⟨z,_⟩;rw[i]at z;cases z;exact⟨B,o,i,O,g3,j⟩;rw[(r _ z).1]at i;cases i
 refine⟨sigX ρ NL σ,⟨hF.size,λt u hu=>?_,hF.defers⟩,⟨?_,?_,?_,?_,?_,?_,λB' h=>?_⟩,(λg cs h=>hg g cs h),⟨?_,?_,X.size,X.frame,?_,?_,X.os,X.tape,X.output,X.sro,X.rog,λB G=>?_⟩⟩;obtain⟨v,i,j⟩:=a0 _ _ hu;exact Cy (j.move _ (hF.val t v i));intro B' o1 h D;rcases K _ _ h with⟨B,o,i,j,s⟩|⟨i,j⟩;rcases R.obj0 B o j (by rw[<-s.here];exact D)with⟨b,d,c,z,O⟩|⟨z,O⟩;exact .inl ⟨b,d,c,dt i z,Cz (s.move O)⟩;exact .inr ⟨s.nilOk.trans z,.inl ⟨B,i,O⟩⟩;exact .inr ⟨j,.inr i⟩;intro Q B2 o1 o2 x1 x2 i j y J Z V U;obtain⟨C1,p1,a1,a2,a3,a4⟩:=L i V;obtain⟨C2,p2,b1,b2,b3,b4⟩:=L j U;exact R.inj C1 C2 p1 p2 x1 x2 a2 b2 (by rw[<-a3.own];exact y) (by rw[<-b3.here];exact J) (λe=>by subst e;exact Z (I _ _ _ _ _ i y j J a1 b1)) a4 b4;intro B' x l;obtain⟨B,_,j⟩:=hx l;exact R.lt B x j;intro B' a5;show(ρ B').bind σ.f=none;cases hb:ρ B' with
 |none=>rfl
 |some B=>exact absurd (H _ _ hb) (by simp at a5;omega)
 exact R.ro;intro B' o1 x h y l;obtain⟨B,o,i,j,s,M⟩:=L h l;exact R.sep B o x j (by rw[<-s.own];exact y) M;rcases h with⟨B,i,j⟩|h;refine⟨H _ _ i,?_⟩;show(ρ B').bind σ.f=none;rw[i];exact(R.nl B j).2;refine⟨(r _ h).2,?_⟩;show(ρ B').bind σ.f=none;rw[(r _ h).1];rfl;intro B G;show(ρ B).bind σ.f=S.f B;rw[q B G];exact X.sig B G;exact Y;intro B' o1 x h y l;obtain⟨B,o,i,j,s,M⟩:=L h l;exact X.orig B o x j (by rw[<-s.own];exact y) M;intro B' o1 x h y l;obtain⟨B,o,i,j,s,M⟩:=L h l;exact X.orig2 B o x j (by rw[<-s.here];exact y) M;refine Iff.trans ⟨λh=>?_,λh=>.inl ⟨B,q B G,h⟩⟩ (X.snl B G);rcases h with⟨B',i,j⟩|h;rw[q B G]at i;cases i;exact j;have:=(r _ h).1;rw[q B G]at this;cases this
def rhoX(m:Ld)(ρf:Nat->Lk)(B:Nat):Lk:=match back m B with
 |some x=>some x
 |none=>ρf B
theorem rhoX_m{B':Nat}(h:back m B'=some B):rhoX m ρf B'=some B:=by unfold rhoX;rw[h]
theorem RV.up(b:∀ B' B,ρ B'=some B->ρ' B'=some B){a:Value}(h:RV ρ v a):RV ρ' v a:=
 RV.rec (motive_1:=λv a _=>RV ρ' v a) (motive_2:=λl l1 _=>RVs ρ' l l1) (λh=>.hf h) (λh=>.ptr (b _ _ h)) (λh=>.slice (b _ _ h)) RV.sliceE (λq=>.nilG q) (λh=>.map (b _ _ h)) (λr _ _ j i=>.func r j i) (λ_ h=>.iface h) (λ_ h=>.agg h) (λ_ h=>.tuple h) RVs.nil (λ_ _ h t=>.cons h t) h
theorem RVs.up(a:∀ B' B,ρ B'=some B->ρ' B'=some B):∀ {l l1:Lh},RVs ρ l l1->RVs ρ' l l1
 |_,_,.nil=>.nil
 |_,_,.cons h t=>.cons (h.up a) (t.up a)
theorem REs.up(a:∀ B' B,ρ B'=some B->ρ' B'=some B):∀ {l l1:Lc},REs ρ l l1->REs ρ' l l1
 |_,_,.nil=>.nil
 |_,_,.cons h t=>.cons (h.up a) (t.up a)
theorem RO.up(a:∀ B' B,ρ B'=some B->ρ' B'=some B)(h:RO ρ o o1):RO ρ' o o1:=by
 cases h with
 |cells h=>exact .cells (h.up a)
 |ro h=>exact .ro (h.up a)
 |map h=>exact .map (h.up a)
 |gro h=>exact .gro h
 |arr h k=>exact .arr h (k.up a)
 |toArr b h k=>exact .toArr b h (k.up a)
 |dead=>exact .dead
def Df:List (Nat×AObj)->Nat->Option AObj
 | [],_=>none
 |x::l,B=>bif Nat.beq B x.1 then some x.2 else Df l B
def kJ (ws:Lg)(ov:List (Nat×AObj))(ρ:Nat->Lk)(m:Ld)(A:AH)(l:Ld):Option (Lh×Prop×List (Nat×AObj)):=
 List.rec (motive:=λ_=>Option (Lh×Prop×List (Nat×AObj))) (some ([],True,[])) (λx _ ih=>match A.t.get x.2 with
  | some o=>(match Df ov x.1 with
    |some o1=>(match ih with|some s=>some (s.1,ROX ρ o o1/\s.2.1,(x.1,o1)::s.2.2)|none=>none)
    | none=>(match(bif isWh ws o then renW o else renO m o)with
      |some r=>(match ih with|some s=>some (r.1++s.1,s.2.1,(x.1,r.2)::s.2.2)|none=>none)
      |none=>none))
  |none=>none) l
theorem jr{ws:Lg}{ov:List (Nat×AObj)}{ρ:Nat->Lk}{m:Ld}{A:AH}(q:∀ B' B,back m B'=some B->ρ B'=some B):∀ {l:Ld}{r},kJ ws ov ρ m A l=some r->(∀x∈l,back m x.1=some x.2)->(∀x∈r.1,HF x)->r.2.1->∀ B' o1,(B',o1)∈r.2.2->∃ B o,ρ B'=some B/\A.t.get B=some o/\ROX ρ o o1
 | [],r,h,_,_,_=>by have h:some ([],True,[])=some r:=h;cases h;intro B' o1 i;cases i
 | t :: l,r,h,hb,hh,hp=>by
  have h:(match A.t.get t.2 with
   | some o=>(match Df ov t.1 with
     |some o1=>(match kJ ws ov ρ m A l with|some s=>some (s.1,ROX ρ o o1/\s.2.1,(t.1,o1)::s.2.2)|none=>none)
     | none=>(match(bif isWh ws o then renW o else renO m o)with
       |some r=>(match kJ ws ov ρ m A l with|some s=>some (r.1++s.1,s.2.1,(t.1,r.2)::s.2.2)|none=>none)
       |none=>none))
   |none=>none)=some r:=h
  have j:=q _ _ (hb t (by simp));split at h;rename_i v C;split at h;rename_i o1 G;split at h;rename_i s b;cases h;intro B' y i;rcases Gz.1 i with e|e;cases e;exact⟨_,_,j,C,hp.1⟩;exact jr q b (λx a=>hb x (by simp[a])) hh hp.2 B' y e;cases h;split at h;rename_i D u;split at h;rename_i s b;cases h;have H:RO (back m) v D.2:=by
   cases z:isWh ws v with
   |true=>rw[z]at u;exact lX u λx a=>hh x (by simp[a])
   |false=>rw[z]at u;exact lY u λx a=>hh x (by simp[a])
  intro B' y i;rcases Gz.1 i with e|e;cases e;exact⟨_,_,j,C,.of (H.up q)⟩;exact jr q b (λx a=>hb x (by simp[a])) (λx a=>hh x (by simp[a])) hp B' y e;cases h;cases h;cases h
def iB(l:List (Li×(Nat->Option AObj)))(t:T AObj):Option (T AObj):=
 List.rec (motive:=λ_=>Option (T AObj)) (some t) (λx _ ih=>match ih with|some t1=>T.setFn x.1 t1 x.2|none=>none) l
def FamOk(ρ:Nat->Lk)(NL:Nat->Prop)(A:AH)(p:Li)(g:Nat->Option AObj):Prop:=∀ i o1,g i=some o1->(∃B o,ρ (T.numF p i)=some B/\A.t.get B=some o/\ROX ρ o o1)∨(NL (T.numF p i)/\o1.nilOk=true)
def sj(ρ:Nat->Lk)(NL:Nat->Prop)(A:AH)(l:List (Li×(Nat->Option AObj))):Prop:=List.rec (motive:=λ_=>Prop) True (λx _ ih=>FamOk ρ NL A x.1 x.2/\ih) l
theorem nO{ρ:Nat->Lk}{NL:Nat->Prop}{A:AH}:∀ {l:List (Li×(Nat->Option AObj))}{t t1:T AObj},iB l t=some t1->sj ρ NL A l->∀ B' o1,t1.get B'=some o1->((∃B o,ρ B'=some B/\A.t.get B=some o/\ROX ρ o o1)∨(NL B'/\o1.nilOk=true))∨t.get B'=some o1
 | [],t,t1,h,_,B',o1,ho=>by have h:some t=some t1:=h;cases h;exact .inr ho
 |x::l,t,t1,h,hf,B',o1,ho=>by have h:(match iB l t with|some a=>T.setFn x.1 a x.2|none=>none)=some t1:=h;split at h;rename_i a j;by_cases b:T.InF x.1 B';obtain⟨i,rfl⟩:=b;rw[Jg h]at ho;exact .inl (hf.1 i o1 ho);rw[I5 h B' b]at ho;exact nO j hf.2 B' o1 ho;cases h
structure RhoOk (m:Ld) (ρf:Nat->Lk) (NL Lv:Nat->Prop) (nx:Nat):Prop where
 nl:∀ B,NL B->ρf B=none/\back m B=none/\B<nx
 lt:∀ B' B,ρf B'=some B->B'<nx
 inj:∀ B1 B2 B,Lv B1->Lv B2->ρf B1=some B->ρf B2=some B->B1=B2
 sep:∀ x∈m,∀B',Lv B'->ρf B'≠some x.2
theorem yp(s:bn nx m=true){q:Nat->Prop}(h:RhoOk m ρf NL q nx){l:Nat}(r:q l)(l2:q B2)(i:rhoX m ρf l=some B)(a:rhoX m ρf B2=some B):l=B2:=by
 unfold rhoX at i a;cases j:back m l with
 | some x=>
  rw[j]at i;cases i;cases b:back m B2 with
  |some y=>rw[b]at a;cases a;exact dq s j b
  |none=>rw[b]at a;exact absurd a (h.sep _ (aY j) _ l2)
 |none=>
 rw[j]at i;cases b:back m B2 with
 |some y=>rw[b]at a;cases a;exact absurd i (h.sep _ (aY b) _ r)
 |none=>rw[b]at a;exact h.inj _ _ _ r l2 i a
def x9 (k :Nat)(ws:Lg)(ov:List (Nat×AObj))(m:Ld)(slots:Lg)(nx:Nat)(fm:List (Li×(Nat->Option AObj)))(ρf:Nat->Lk)(NL:Nat->Prop)(F:T Value)(A:AH)(K:KF):Prop:=
 match sW m F slots with
 | some r =>(match kJ ws ov (rhoX m ρf) m A m with
   | some s=>(match ofL r.2 .leaf with
     | some F1=>(match ofL s.2.2 .leaf with
       | some t0=>(match iB fm t0 with
         |some t1=>bif (bn nx m&&baks m)&&Nat.ble k nx then HFs (r.1++s.1) ((∀B,B<k->rhoX m ρf B=some B)/\RhoOk m ρf NL (λB=>∃ o,t1.get B=some o/\o.here=true) nx/\s.2.1/\sj (rhoX m ρf) NL A fm/\K F1 ⟨t1,nx⟩)else False
         |none=>False)
       |none=>False)
     |none=>False)
   |none=>False)
 |none=>False
theorem qD(H:GlOk E){ov:List (Nat×AObj)}{slots:Lg}{fm:List (Li×(Nat->Option AObj))}{K:KF}(h:x9 A0.next ws ov m slots nx fm ρf NL F A K):∃ F1 A1,K F1 A1/\Turns E A0 n F A F1 A1:=by
 unfold x9 at h;split at h;rename_i r Q;split at h;rename_i s O;split at h;rename_i F1 V;split at h;rename_i t0 D;split at h;rename_i t1 z;cases j:(bn nx m&&baks m)&&Nat.ble A0.next nx
 rw[j]at h;exact h.elim;rw[j]at h;simp only[f',GI]at j;obtain⟨J,G,a,R,U,k⟩:=gn h;have y:∀ u B,back m u=some B->rhoX m ρf u=some B:=λ_ _ h=>rhoX_m h;have I:∀ x∈m,back m x.1=some x.2:=λx i=>by have:=G0.1 j.1.2 x i;unfold bak at this;split at this;rename_i C Y;rw[Y,Gt this];cases this
 refine⟨F1,⟨t1,nx⟩,k,Turns.rhoX H (rhoX m ρf) NL (λB l=>⟨by unfold rhoX;rw[(a.nl B l).2.1];exact(a.nl B l).1,(a.nl B l).2.2⟩) G j.2 (λu B l=>?_) (λB1 B2 B o1 L g1 g2 g3 g4 b q=>yp j.1.1 a ⟨o1,g1,AObj.here_of_own g2⟩ ⟨L,g3,g4⟩ b q) (λt v1 M=>?_) (λu o1 S=>?_)⟩;unfold rhoX at l;split at l;rename_i x i;exact cB j.1.1 (aY i);exact a.lt _ _ l;rcases dz V M with b|b;obtain⟨v,q,Z⟩:=(lM Q λx i=>J x (by simp[i])).mem b;exact⟨v,q,Z.up y⟩;simp[T.get]at b;rcases nO z U u o1 S with b|b;exact b;rcases dz D b with q|q;exact .inl (jr y O I (λx i=>J x (by simp[i])) R u o1 q);simp[T.get]at q;exact h.elim;exact h.elim;exact h.elim;exact h.elim;exact h.elim
structure GivenX (A:AH) (ρ:Nat->Lk) (t1:T AObj) (k1:Nat):Prop where
 at':∀ i o1,t1.get i=some o1->o1.here=true->∃ B o,ρ i=some B/\A.t.get B=some o/\ROX ρ o o1
 own:∀ i o1,t1.get i=some o1->o1.here=true->o1.own=true
 inj:∀ i j B o1 o2,t1.get i=some o1->o1.own=true->t1.get j=some o2->o2.here=true->ρ i=some B->ρ j=some B->i=j
 lt:∀ i B,ρ i=some B->i<k1
theorem GivenX.of(G:GivenX A ρ t1 k1){i:Nat}{x:Nat×Nat×Nat}(h:t1.get i=some o1)(l:o1.here=true)(j:(sigT ρ σ) i=some x):∃ B o,ρ i=some B/\A.t.get B=some o/\ROX ρ o o1/\σ B=some x:=by obtain⟨B,a,q⟩:=bP j;obtain⟨C,o,b,s,r⟩:=G.at' i o1 h l;rw[a]at b;cases b;exact⟨B,o,a,s,r,q⟩
theorem Rel.renX(R:Rel P σ A w)(G:GivenX A ρ t1 k1):Rel P (sigT ρ σ) ⟨t1,k1⟩ w:=by
 refine⟨?_,?_,?_,?_,R.ro,?_,λl h=>?_⟩;intro l o1 h a;obtain⟨B,o,j,i,s⟩:=G.at' l o1 h a;rcases R.obj0 B o i (by rw[<-s.here];exact a)with⟨b,d,c,H,D⟩|⟨H,D⟩;exact .inl ⟨b,d,c,dt j H,s.move D⟩;exact .inr ⟨s.nilOk.trans H,B,j,D⟩;intro B1 B2 o1 o2 I x2 j i r q z u t;obtain⟨C1,K,Z,Y,V,U⟩:=G.of j (AObj.here_of_own r) u;obtain⟨C2,J,S,b2,Q,O⟩:=G.of i q t;exact R.inj C1 C2 K J I x2 Y b2 (by rw[<-V.own];exact r) (by rw[<-Q.here];exact q) (λe=>by subst e;exact z (G.inj _ _ _ _ _ j r i q Z S)) U O;intro l x y;obtain⟨B,_,i⟩:=bP y;exact R.lt B x i;intro l C;show(ρ l).bind σ.f=none;cases L:ρ l with
 |none=>rfl
 |some B=>exact absurd (G.lt _ _ L) (by simp at C;omega)
 intro l o1 x h r y;obtain⟨B,o,j,i,s,M⟩:=G.of h (AObj.here_of_own r) y;exact R.sep B o x i (by rw[<-s.own];exact r) M;obtain⟨B,j,i⟩:=h;refine⟨G.lt _ _ j,?_⟩;show(ρ l).bind σ.f=none;rw[j];exact(R.nl B i).2
def gvX(σ:Sig)(ρ:Nat->Lk)(t1:T AObj)(b:Nat):Prop:=∃ i o1 y,t1.get i=some o1/\o1.own=true/\(sigT ρ σ) i=some y/\y.1=b
open Classical in
def jD(σ σ2:Sig)(N:Nat)(ρ2:Nat->Lk)(gv:Nat->Prop)(w:World):Sig:=
 ⟨λB=>if B<N then σ.f B else(ρ2 B).bind σ2.f,λb=>if b<w.heap.size/\¬ gv b then σ.ro b else σ2.ro b,λB=>if B<N then σ.nl B else ∃j,ρ2 B=some j/\σ2.nl j⟩
theorem p8{a:Sig}{ρ2:Nat->Lk}(R:Rel P σ A w)(G:GivenX A ρ t1 k1)
 (R2:Rel P a A2 w') (X:Ext (sigT ρ σ) ⟨t1,k⟩ w a A2 w') (d3:VR a v2 v')
 (hN:A.next<=nx) (d2:∀ B i,B<A.next->ρ2 B=some i->i<k/\ρ i=some B) (c2:∀ B i,ρ2 B=some i->B<nx)
 (c3:∀ B1 B2 i o1 o2,tA.get B1=some o1->o1.own=true->tA.get B2=some o2->o2.here=true->ρ2 B1=some i->ρ2 B2=some i->B1=B2) (hv:RV ρ2 v2 v)
 (c6:∀ B o,tA.get B=some o->(∃i o2,ρ2 B=some i/\A2.t.get i=some o2/\ROX ρ2 o2 o)∨(A.t.get B=some o/\∀ i o1,t1.get i=some o1->o1.here=true->ρ i≠some B)):
 ∃σ',VR σ' v v'/\Rel P σ' ⟨tA,nx⟩ w'/\Ext σ A w σ' ⟨tA,nx⟩ w':=by
 have a5:∀ b,b<w.heap.size->¬ gvX σ ρ t1 b->w'.heap[b]? =w.heap[b]?:=λb s hn=>X.frame b s λY o x J I h3 e=>hn ⟨Y,o,x,J,I,h3,e⟩;have Q:∀ {b:Nat},gvX σ ρ t1 b->∃ Y o0 x0,A.t.get Y=some o0/\o0.own=true/\σ Y=some x0/\x0.1=b:=fun {b} ⟨i,o1,y,J,I,h3,e⟩=>by obtain⟨B,o,_,r,u,g4⟩:=G.of J (AObj.here_of_own I) h3;exact⟨B,o,y,r,by rw[<-u.own];exact I,g4,e⟩
 have c5:∀ b o,σ.ro b=some o->¬ gvX σ ρ t1 b:=λb o h hg=>by obtain⟨Y,o0,x0,k1,k2,k3,k4⟩:=Q hg;have:=R.sep Y o0 x0 k1 k2 k3;rw[k4,h]at this;cases this
 have d0:∀ B o,A.t.get B=some o->o.here=true->B<A.next:=λB o h O=>by
  rcases R.obj0 B o h O with⟨b,d,c,H,_⟩|⟨_,r⟩;rcases Hc B A.next with q|q
  exact q;rw[R.fresh B q]at H;cases H;exact(R.nl B r).1
 have M:∀ j o x,A2.t.get j=some o->o.here=true->a j=some x->¬ (x.1<w.heap.size/\¬ gvX σ ρ t1 x.1):=λj o x ho O D ⟨q1,q2⟩=>by rcases X.orig2 j o x ho O D with k1|⟨Y,o0,x0,k1,k2,k3,k4⟩;omega;exact q2 ⟨Y,o0,x0,k1,G.own _ _ k1 k2,k3,k4⟩
 have l:∀ B,B<A.next->(jD σ a A.next ρ2 (gvX σ ρ t1) w) B=σ B:=λB h=>E' h
 have a8:∀ B,¬B<A.next->(jD σ a A.next ρ2 (gvX σ ρ t1) w) B=(ρ2 B).bind a.f:=λB h=>C' h
 have U:∀ B,B<A.next->((jD σ a A.next ρ2 (gvX σ ρ t1) w).nl B↔σ.nl B):=λB h=>by show(if B<A.next then σ.nl B else _)↔_;rw[E' h]
 have c1:∀ B,¬B<A.next->((jD σ a A.next ρ2 (gvX σ ρ t1) w).nl B↔∃ j,ρ2 B=some j/\a.nl j):=λB h=>by show(if B<A.next then σ.nl B else _)↔_;rw[C' h]
 have K:∀ b,b<w.heap.size/\¬ gvX σ ρ t1 b->(jD σ a A.next ρ2 (gvX σ ρ t1) w).ro b=σ.ro b:=λb h=>E' h;have a0:∀ b,¬(b<w.heap.size/\¬ gvX σ ρ t1 b)->(jD σ a A.next ρ2 (gvX σ ρ t1) w).ro b=a.ro b:=λb h=>C' h;have z:∀ B j,ρ2 B=some j->(jD σ a A.next ρ2 (gvX σ ρ t1) w) B=a j/\((jD σ a A.next ρ2 (gvX σ ρ t1) w).nl B↔a.nl j):=λB j s=>by
  by_cases V:B<A.next
  obtain⟨hj,c4⟩:=d2 B j V s;have e1:a j=(sigT ρ σ) j:=X.sig j hj;have e2:(sigT ρ σ) j=σ B:=by show(ρ j).bind σ.f=σ.f B;rw[c4];rfl
  refine⟨by rw[l B V,e1,e2],(U B V).trans ?_⟩;refine Iff.trans ⟨λh=>⟨B,c4,h⟩,λ⟨B',J,I⟩=>?_⟩ (X.snl j hj).symm;rw[c4]at J;cases J;exact I;refine⟨by rw[a8 B V,s];rfl,(c1 B V).trans ⟨λ⟨j',J,I⟩=>?_,λh=>⟨j,s,h⟩⟩⟩;rw[s]at J;cases J;exact I
 have c0:σ.sub (jD σ a A.next ρ2 (gvX σ ρ t1) w):=⟨λB x h=>by
  have V:B<A.next:=by
   rcases Hc B A.next with q|q
   exact q;have:=R.fresh B q;have h:σ B=some x:=h;rw[this]at h;cases h
  exact(l B V).trans h,λb o h=>(K b ⟨k7 (R.ro b o h),c5 b o h⟩).trans h⟩
 have b5:(sigT ρ2 a).sub (jD σ a A.next ρ2 (gvX σ ρ t1) w):=⟨λB x h=>by
  obtain⟨j,s,hs⟩:=bP h;exact(z B j s).1.trans hs,λb o h=>by
  have h:a.ro b=some o:=h;by_cases hc:b<w.heap.size/\¬ gvX σ ρ t1 b;refine(K b hc).trans ?_;rcases X.rog b o h with q|q|⟨Y,o0,x0,k1,k2,k3,k4⟩;exact q;exact absurd hc.1 (by omega);exact absurd ⟨Y,o0,x0,k1,k2,k3,k4⟩ hc.2;exact(a0 b hc).trans h⟩
 have b0:∀ B o x,(∀i o1,t1.get i=some o1->o1.here=true->ρ i≠some B)->A.t.get B=some o->o.here=true->σ B=some x->x.1<w.heap.size/\¬ gvX σ ρ t1 x.1:=λB o x a9 h O D=>⟨R.lt B x D,λ⟨i,o1,y,J,I,h3,e⟩=>by obtain⟨C,o',H,r,u,g4⟩:=G.of J (AObj.here_of_own I) h3;exact R.inj C B o' o y x r h (by rw[<-u.own];exact I) O (λe2=>a9 i o1 J (AObj.here_of_own I) (by rw[H,e2])) g4 D e⟩
 have S:∀ B o,tA.get B=some o->o.here=true->(∃j o2,ρ2 B=some j/\A2.t.get j=some o2/\ROX ρ2 o2 o/\o2.here=true)∨((∀i o1,t1.get i=some o1->o1.here=true->ρ i≠some B)/\A.t.get B=some o/\B<A.next):=λB o h O=>by rcases c6 B o h with⟨j,o2,H,r,u⟩|⟨q2,q1⟩;exact .inl ⟨j,o2,H,r,u,by rw[<-u.here];exact O⟩;exact .inr ⟨q1,q2,d0 B o q2 O⟩
 refine⟨jD σ a A.next ρ2 (gvX σ ρ t1) w,(hv.move v' d3).mono b5,⟨λB o h hh=>?_,λB1 B2 o1 o2 x1 x2 J I a6 a7 a9 Z L=>?_,λB x h=>?_,λB h=>?_,λb o h=>?_,λB o x h ho D=>?_,λB h=>?_⟩,⟨λB h=>l B h,hN,X.size,λb s hn=>a5 b s λd1=>?_,λB o x h ho D=>?_,λB o x h ho D=>?_,X.os,X.tape,X.output,c0.ro,λb o h=>?_,λB h=>U B h⟩⟩;rcases S B o h hh with⟨j,o2,H,r,u,g4⟩|⟨H,r,u⟩;rcases R2.obj0 j o2 r g4 with⟨b,d,c,q1,q2⟩|⟨q1,q2⟩;exact .inl ⟨b,d,c,(z B j H).1.trans q1,(u.move q2).mono b5⟩;exact .inr ⟨u.nilOk.trans q1,(z B j H).2.2 q2⟩;rcases R.obj0 B o r hh with⟨b,d,c,q1,q2⟩|⟨q1,q2⟩;refine .inl ⟨b,d,c,(l B u).trans q1,?_⟩;have:=b0 B o _ H r hh q1;rw[a5 b this.1 this.2];exact q2.mono c0;exact .inr ⟨q1,(U B u).2 q2⟩;rcases S B1 o1 J (AObj.here_of_own a6)with⟨j1,p1,a1,a2,a3,a4⟩|⟨a1,a2,a3⟩;rw[(z B1 j1 a1).1]at Z;rcases S B2 o2 I a7 with⟨j2,p2,b1,b2,b3,b4⟩|⟨b1,b2,b3⟩;rw[(z B2 j2 b1).1]at L;exact R2.inj j1 j2 p1 p2 x1 x2 a2 b2 (by rw[<-a3.own];exact a6) b4 (λe=>by subst e;exact a9 (c3 _ _ _ _ _ J a6 I a7 a1 b1)) Z L;rw[l B2 b3]at L;intro e;exact M j1 p1 x1 a2 a4 Z (e▸b0 B2 o2 x2 b1 b2 a7 L);rw[l B1 a3]at Z;rcases S B2 o2 I a7 with⟨j2,p2,b1,b2,b3,b4⟩|⟨b1,b2,b3⟩;rw[(z B2 j2 b1).1]at L;intro e;exact M j2 p2 x2 b2 b4 L (e▸b0 B1 o1 x1 a1 a2 (AObj.here_of_own a6) Z);rw[l B2 b3]at L;exact R.inj B1 B2 o1 o2 x1 x2 a2 b2 a6 a7 a9 Z L;by_cases V:B<A.next
 rw[l B V]at h;exact HC (R.lt B x h) X.size;rw[a8 B V]at h;cases s:ρ2 B with
 |none=>rw[s]at h;cases h
 |some j=>rw[s]at h;exact R2.lt j x h
 have h:nx<=B:=h;rw[a8 B (by omega)];cases s:ρ2 B with
 |none=>rfl
 |some j=>exact absurd (c2 B j s) (by omega)
 by_cases s:b<w.heap.size/\¬ gvX σ ρ t1 b;rw[K b s]at h;rw[a5 b s.1 s.2];exact R.ro b o h;rw[a0 b s]at h;exact R2.ro b o h;rcases S B o h (AObj.here_of_own ho)with⟨j,o2,H,r,u,g4⟩|⟨H,r,u⟩;rw[(z B j H).1]at D;rw[a0 _ (M j o2 x r g4 D)];exact R2.sep j o2 x r (by rw[<-u.own];exact ho) D;rw[l B u]at D;rw[K _ (b0 B o x H r (AObj.here_of_own ho) D)];exact R.sep B o x r ho D;by_cases V:B<A.next
 have:=R.nl B ((U B V).1 h);exact⟨HC this.1 hN,(l B V).trans this.2⟩;obtain⟨j,J,I⟩:=(c1 B V).1 h;exact⟨c2 B j J,(z B j J).1.trans (R2.nl j I).2⟩;obtain⟨Y,o0,x0,k1,k2,k3,k4⟩:=Q d1;exact hn Y o0 x0 k1 k2 k3 k4;rcases S B o h (AObj.here_of_own ho)with⟨j,o2,H,r,u,g4⟩|⟨H,r,u⟩;rw[(z B j H).1]at D;rcases Hc x.1 w.heap.size with q|q;exact .inr (Q (Hk λhn=>M j o2 x r g4 D ⟨q,hn⟩));exact .inl q;rw[l B u]at D;exact .inr ⟨B,o,x,r,ho,D,rfl⟩;rcases S B o h ho with⟨j,o2,H,r,u,g4⟩|⟨H,r,u⟩;rw[(z B j H).1]at D;rcases Hc x.1 w.heap.size with q|q;obtain⟨Y,o0,x0,k1,k2,k3,k4⟩:=Q (Hk λhn=>M j o2 x r g4 D ⟨q,hn⟩);exact .inr ⟨Y,o0,x0,k1,AObj.here_of_own k2,k3,k4⟩;exact .inl q;rw[l B u]at D;exact .inr ⟨B,o,x,r,ho,D,rfl⟩;by_cases s:b<w.heap.size/\¬ gvX σ ρ t1 b;rw[K b s]at h;exact .inl h;rcases Hc b w.heap.size with q|q;exact .inr (.inr (Q (Hk λhn=>s ⟨q,hn⟩)));exact .inr (.inl q)
def x5(E:Env)(f:FuncId)(k:Nat)(args:Lh)(A:AH)(v:Value)(N:AH):Prop:=∀ σ w args',Rel E.P σ A w->Glob E σ->VRs σ args args'->
 Calls E.P f ⟨args'⟩ w (λe w'=>∃ v' σ',e=.returned v'/\VR σ' v v'/\Rel E.P σ' N w'/\Ext σ ⟨A.t,k⟩ w σ' N w')
def WalkK(E:Env)(fn:Func)(k:Nat)(args:Lh)(A1:AH)(v:Value)(N:AH):Prop:=
 ∃c F,fn.body=some c/\Nat.ble args.length fn.ntmps=true/\cd args 0 .leaf=some F/\k<=A1.next/\W E ⟨A1.t,k⟩ fn.ntmps c (Fin E fn (EndF E ⟨A1.t,k⟩ v N)) F A1
def Cg(X:SX)(d:Nat)(fn:Func)(A0:AH)(args:Lh)(A1:AH)(K:KV):Prop:=match fn.body with
 | some c=>(match cd args 0 .leaf with
   |some F=>bif Nat.ble args.length fn.ntmps then sxC X (inlN X d) A0 fn.ntmps c F A1 (finK X.E fn.results.toList K)else False
   |none=>False)
 |none=>False
theorem sX(s:X.Ok)(l:k<=A1.next)(h:Cg X d fn ⟨A1.t,k⟩ args A1 (EndF X.E ⟨A1.t,k⟩ v N)):WalkK X.E fn k args A1 v N:=by unfold Cg at h;split at h;rename_i c r;split at h;rename_i F u;cases a:Nat.ble args.length fn.ntmps;rw[a]at h;exact h.elim;rw[a]at h;refine⟨c,F,r,a,u,l,(jt s (d:=d) h).mono λx y z q=>?_⟩;obtain⟨j,v2,i,b⟩:=ga q;exact⟨j,v2,i,b⟩;exact h.elim;exact h.elim
theorem WalkK.call(O:E.Ok)(D:E.fn f=some fn)(Q:WalkK E fn k args A1 v N):x5 E f k args A1 v N:=by
 intro σ w K R L Y;obtain⟨M,F,b,q,a,U,Z⟩:=Q;have X1:Ext σ ⟨A1.t,k⟩ w σ A1 w:=⟨λ_ _=>rfl,U,GE _,λ_ _ _=>rfl,λB o x y s r=>.inr ⟨B,o,x,y,s,r,rfl⟩,λB o x y s r=>.inr ⟨B,o,x,y,s,r,rfl⟩,rfl,rfl,rfl,λ_ _ h=>h,λ_ _ h=>.inl h,λ_ _=>I6⟩;refine(k9 O D b a (Ic q) Z R L X1 Y).mono λen w' V=>?_;obtain⟨v2,v',A2,j,rfl,⟨F2,F1,I,J,S⟩,G,R2,X⟩:=V;have C:Glob E j:=λg cs h=>let ⟨y,s,c,e,fz,r,h4⟩:=L g cs h;⟨y,s,c,e,fz,X.sro _ _ r,h4⟩;have l:=Hl I;obtain⟨z,H,R3,_,X3⟩:=S _ w ⟨#[v'],[]⟩ w' ⟨j,⟨rfl,λt u i=>by unfold slot at i;rw[l]at i;by_cases e:t=0;subst e;rw[E' rfl]at i;cases i;exact G;rw[C' e]at i;simp[T.get]at i,rfl⟩,R2,C,X⟩
 exact⟨v',z,rfl,H.val 0 v J,R3,X3⟩
theorem eD{a:Lh}{ρ2:Nat->Lk}{y:Value}(G:GivenX A ρ t1 k1)(C:RVs ρ args a)
 (J:x5 E f k a ⟨t1,k1⟩ y N)
 (Q:A.next<=nx) (s:∀ B i,B<A.next->ρ2 B=some i->i<k/\ρ i=some B) (l:∀ B i,ρ2 B=some i->B<nx)
 (b:∀ x B2 i o1 o2,tA.get x=some o1->o1.own=true->tA.get B2=some o2->o2.here=true->ρ2 x=some i->ρ2 B2=some i->x=B2) (K:RV ρ2 y v)
 (r:∀ B o,tA.get B=some o->(∃i o2,ρ2 B=some i/\N.t.get i=some o2/\ROX ρ2 o2 o)∨(A.t.get B=some o/\∀ i o1,t1.get i=some o1->o1.here=true->ρ i≠some B)):CallAt E f args A v ⟨tA,nx⟩:=by intro σ w j R L O;refine(J _ w j (R.renX G) (λg S h=>L g S h) (C.move O)).mono λY w' M=>?_;obtain⟨v',z,rfl,u,V,U⟩:=M;obtain⟨q,I,H,D⟩:=p8 R G V U u Q s l b K r;exact⟨v',q,rfl,I,H,D⟩
def yT(ar:TypeId->Lk)(nm:Lg)(m:Ld)(A:AH)(l:Ld):Option (Lh×List (Nat×AObj)):=
 List.rec (motive:=λ_=>Option (Lh×List (Nat×AObj))) (some ([],[])) (λx _ ih=>bif inL x.1 nm then(match ih with|some s=>some (s.1,(x.1,.dead)::s.2)|none=>none)else(match A.t.get x.2 with
  | some o=>bif o.own then(match kA ar m o with
    |some r=>(match ih with|some s=>some (r.1++s.1,(x.1,r.2)::s.2)|none=>none)
    |none=>none)else none
  |none=>none)) l
theorem mj{ar:TypeId->Lk}{a:Lg}{m:Ld}{A:AH}:∀ {l:Ld}{r},yT ar a m A l=some r->(∀x∈l,back m x.1=some x.2)->(∀x∈r.1,HF x)->
 (∀i o1,(i,o1)∈r.2->(inL i a=true/\o1=.dead)∨(inL i a=false/\o1.own=true/\∃ B o,back m i=some B/\A.t.get B=some o/\RO (back m) o o1))/\r.2.map (·.1)=l.map (·.1)
 | [],r,h,_,_=>by have h:some ([],[])=some r:=h;cases h;exact⟨λi o1 q=>(by cases q),rfl⟩
 | t ::l,r,h,hb,hh=>by
  have h:(bif inL t.1 a then(match yT ar a m A l with|some s=>some (s.1,(t.1,.dead)::s.2)|none=>none)else(match A.t.get t.2 with
   | some o=>bif o.own then(match kA ar m o with
     |some r=>(match yT ar a m A l with|some s=>some (r.1++s.1,(t.1,r.2)::s.2)|none=>none)
     |none=>none)else none
   |none=>none))=some r:=h
  cases u:inL t.1 a with
  |true=>rw[u]at h;simp only[D']at h;split at h;rename_i s C;cases h;obtain⟨z,y⟩:=mj C (λx b=>hb x (by simp[b])) hh;refine⟨λi o1 q=>?_,by simp[y]⟩;rcases Gz.1 q with e|e;cases e;exact .inl ⟨u,rfl⟩;exact z i o1 e;cases h
  |false=>rw[u]at h;simp only[GN]at h;split at h;rename_i v H;cases D:v.own;rw[D]at h;cases h;rw[D]at h;simp only[D']at h;split at h;rename_i G I;split at h;rename_i s C;cases h;obtain⟨z,y⟩:=mj C (λx b=>hb x (by simp[b])) λx b=>hh x (by simp[b]);refine⟨λi o1 q=>?_,by simp[y]⟩;rcases Gz.1 q with e|e;cases e;have j:=iW (r:=G) I λx b=>hh x (by simp[b]);exact .inr ⟨u,by rw[j.own];exact D,t.2,v,hb t (by simp),H,j⟩;exact z i o1 e;cases h;cases h;cases h
def yU(nm:Lg)(m:Ld)(A:AH)(l:Ld):Option (Lh×List (Nat×AObj)):=
 List.rec (motive:=λ_=>Option (Lh×List (Nat×AObj))) (some ([],[])) (λx _ ih=>bif inL x.2 nm then ih else(match A.t.get x.2 with
  | some o=>bif o.own|| !o.here then(match kA (λ_=>none) m o with
    |some r=>(match ih with|some s=>some (r.1++s.1,(x.1,r.2)::s.2)|none=>none)
    |none=>none)else none
  |none=>none)) l
theorem mn{b:Lg}{m:Ld}{A:AH}:∀ {l:Ld}{r},yU b m A l=some r->(∀x∈l,back m x.1=some x.2)->(∀x∈r.1,HF x)->RenH m A r.2/\∀ x∈l,inL x.2 b=false->∃ o,(x.1,o)∈r.2
 | [],r,h,_,_=>by have h:some ([],[])=some r:=h;cases h;exact⟨.nil,λx a=>(by cases a)⟩
 | t ::l,r,h,hb,hh=>by
  have h:(bif inL t.2 b then yU b m A l else(match A.t.get t.2 with
   | some o=>bif o.own|| !o.here then(match kA (λ_=>none) m o with
     |some r=>(match yU b m A l with|some s=>some (r.1++s.1,(t.1,r.2)::s.2)|none=>none)
     |none=>none)else none
   |none=>none))=some r:=h
  cases u:inL t.2 b with
  |true=>rw[u]at h;simp only[D']at h;obtain⟨q,j⟩:=mn h (λx a=>hb x (by simp[a])) hh;refine⟨q,λx a i=>?_⟩;rcases Gz.1 a with rfl|a;rw[u]at i;cases i;exact j x a i
  |false=>
  rw[u]at h;simp only[GN]at h;split at h;rename_i v z;cases y:(v.own|| !v.here)with
  |false=>rw[y]at h;cases h
  |true=>rw[y]at h;simp only[D']at h;split at h;rename_i H G;split at h;rename_i s C;cases h;obtain⟨q,j⟩:=mn C (λx a=>hb x (by simp[a])) λx a=>hh x (by simp[a]);refine⟨.cons (hb t (by simp)) z (iW G λx a=>hh x (by simp[a])) q,λx a i=>?_⟩;rcases Gz.1 a with rfl|a;exact⟨_,GL⟩;obtain⟨o,D⟩:=j x a i;exact⟨o,GJ _ D⟩;cases h;cases h
  cases h
def frmQ (ar:TypeId->Lk)(nm:Lg)(spec:Lh->List AObj->Option (Ll×Value×List AObj)):RunF:=λargs A=>
 match numb (ta [] A 64 (ko (blks 8) args) []) 0 with
 | m => (match renL (renV m 8) args,yT ar nm m A m with
   | some ra,some hs=>(match spec ra.2 (hs.2.map (·.2))with
     | some r=>bif ((bn (lenM m) m&&baks m)&&(ofL hs.2 .leaf).isSome)&&Nat.ble (lenM m) r.2.2.length then
      (match outM m A.next (lenM m) (r.2.2.length-lenM m)with
      | m2 =>(match renV m2 8 r.2.1,yU nm m2 (aW r.2.2) m2 with
        | some rv,some ho=>bif bn (A.next+(r.2.2.length-lenM m)) m2&&baks m2 then(match setAll ho.2 A.t with
          |some tA=>some (some (HFs (ra.1++(hs.1++(rv.1++ho.1))) (PH r.1)),rv.2,⟨tA,A.next+(r.2.2.length-lenM m)⟩)
          |none=>none)else none
        |_,_=>none))else none
     |none=>none)
   |_,_=>none)
theorem wG(ok:E.Ok)(a8:E.fn f=some fn){nm:Lg}{D:Lh->List AObj->Option (Ll×Value×List AObj)}
 (h:∀ args H p v s,D args H=some (p,v,s)->PH p->WalkF E fn args (aW H) v (aW s)):∀ args A p v A',frmQ ar nm D args A=some (p,v,A')->PH p->CallAt E f args A v A':=by
 intro args A p v A' a hp;unfold frmQ at a;simp only at a;generalize b5:ta [] A 64 (ko (blks 8) args) []=bs at a;have u:=mq bs 0;generalize b3:numb bs 0=m at a u;rw[pN]at a;have a5:m.length=bs.length:=by have:=Hu List.length u;simpa using this
 split at a;rename_i ra L a3 a6;split at a;rename_i r a1;cases Y:((bn m.length m&&baks m)&&(ofL L.2 .leaf).isSome)&&Nat.ble m.length r.2.2.length;rw[Y]at a;cases a;rw[Y]at a;simp only[D']at a;simp only[f',GI,Js]at Y;obtain⟨⟨⟨J,b0⟩,t1,Q⟩,b4⟩:=Y;generalize R:outM m A.next m.length (r.2.2.length-m.length)=m2 at a
 split at a;rename_i rv ho a2 a7;cases l:bn (A.next+(r.2.2.length-m.length)) m2&&baks m2;rw[l]at a;cases a;rw[l]at a;simp only[D']at a;rw[f']at l;split at a;rename_i tA a0;cases a;obtain⟨C,a4⟩:=gn hp;have b1:=nt b0;have b2:=nt l.2;obtain⟨rh,U⟩:=mj a6 b1 λx z=>C x (by simp[z]);obtain⟨rl,a9⟩:=mn a7 b2 λx z=>C x (by simp[z]);have S:L.2.length=m.length:=by have:=Hu List.length U;simpa using this
 have e1:wg 0 (L.2.map (·.2))=L.2:=mH _ 0 (by rw[U,u,S,a5]);have O:=(h ra.2 (L.2.map (·.2)) r.1 r.2.1 r.2.2 a1 a4).call ok a8;have e2:aW (L.2.map (·.2))=⟨t1,m.length⟩:=by unfold aW;rw[e1,Q];simp[S]
 rw[e2]at O;have M:∀ y∈m,(y.2,y.1)∈m2:=λy V=>by rw[<-R];exact mem_outM.2 (.inl ⟨y,V,rfl⟩)
 have K:∀ i o1,t1.get i=some o1->(inL i nm=true/\o1=.dead)∨(inL i nm=false/\o1.own=true/\∃ B o,back m i=some B/\A.t.get B=some o/\RO (back m) o o1):=λi o1 b=>by rcases dz Q b with q|q;exact rh i o1 q;simp[T.get]at q
 have G:GivenX A (back m) t1 m.length:=⟨λi o1 b I=>by
  rcases K i o1 b with⟨_,e⟩|⟨_,_,B,o,q1,Z,q3⟩;rw[e]at I;simp[AObj.here]at I;exact⟨B,o,q1,Z,.of q3⟩,λi o1 b I=>by
  rcases K i o1 b with⟨_,e⟩|⟨_,q,_⟩;rw[e]at I;simp[AObj.here]at I;exact q,λi j B o1 o2 _ _ _ _ h1 h2=>dq J h1 h2,λi B b=>cB J (aY b)⟩
 refine eD (ρ2:=back m2) G (cU (cr 8) a3 λx z=>C x (by simp[z])) (k:=m.length) O (Ij _ _) (λB i hB b=>?_) (λB i b=>cB l.1 (aY b)) (λB1 B2 i o1 o2 _ _ _ _ h1 h2=>dq l.1 h1 h2) (cr 8 _ _ a2 λx z=>C x (by simp[z])) (λB o hB=>?_);have z:=aY b;rw[<-R]at z;rcases mem_outM.1 z with⟨y,V,e⟩|⟨j,hj,e⟩;cases e;exact⟨cB J (B':=y.1) (B:=y.2) V,b1 y V⟩;cases e;omega;rcases gW a0 hB with q|⟨q1,Z⟩;obtain⟨i,o2,g1,g2,g3⟩:=rl.mem q;exact .inl ⟨i,o2,g1,g2,.of g3⟩;refine .inr ⟨Z,λi o1 b I e=>?_⟩;rcases K i o1 b with⟨_,e2⟩|⟨hn,_⟩;rw[e2]at I;simp[AObj.here]at I;obtain⟨o3,h3⟩:=a9 _ (M _ (aY e)) hn;exact q1 _ h3 rfl;cases a;cases a;cases a;cases a
abbrev _root_.Go.Is:=@List.mem_iff_getElem?
def frzB(σ:Sig)(p:Li)(g:Nat->Option AObj)(b:Nat):Prop:=∃ j o x,g j=some o/\o.own=true/\σ (T.numF p j)=some x/\x.1=b
open Classical in
def sigY(σ:Sig)(w:World)(p:Li)(g:Nat->Option AObj):Sig:=⟨σ.f,λb=>if frzB σ p g b then w.heap[b]? else σ.ro b,σ.nl⟩
theorem qM{b:Nat}(h:frzB σ p g b):(sigY σ w p g).ro b=w.heap[b]?:=E' h
theorem iT{b:Nat}(h:¬ frzB σ p g b):(sigY σ w p g).ro b=σ.ro b:=C' h
theorem Rel.frzF(R:Rel P σ A w)(hg:T.getFn p A.t=some g)(V:T.setFn p A.t (λ_=>none)=some t1):
 σ.sub (sigY σ w p g)/\Rel P (sigY σ w p g) ⟨t1,A.next⟩ w/\Ext σ A w (sigY σ w p g) ⟨t1,A.next⟩ w:=by
 have q:=IH hg;have a:∀ {B:Nat}{o:AObj},t1.get B=some o->¬ T.InF p B/\A.t.get B=some o:=fun {B o} h=>by by_cases Q:T.InF p B;obtain⟨i,rfl⟩:=Q;rw[Jg V]at h;cases h;rw[I5 V B Q]at h;exact⟨Q,h⟩
 have z:∀ b,frzB σ p g b->σ.ro b=none:=λb ⟨j,o,x,r,u,C,h4⟩=>by have:=R.sep (T.numF p j) o x (by rw[q];exact r) u C;rw[h4]at this;exact this
 have l:σ.sub (sigY σ w p g):=⟨λ_ _ h=>h,λb o h=>by rw[iT (λs=>by rw[z b s]at h;cases h)];exact h⟩
 refine⟨l,⟨λB o h S=>?_,λB1 B2 o1 Z Y x2 r u D S O M L=>?_,R.lt,R.fresh,λb o h=>?_,λB o x h D U=>?_,R.nl⟩,⟨λ_ _=>rfl,GE _,GE _,λ_ _ _=>rfl,λB o x r u C=>.inr ⟨B,o,x,(a r).2,u,C,rfl⟩,λB o x r u C=>.inr ⟨B,o,x,(a r).2,u,C,rfl⟩,rfl,rfl,rfl,λb o h=>l.ro b o h,λb o h=>?_,λ_ _=>I6⟩⟩;rcases R.obj0 B o (a h).2 S with⟨b,d,c,k1,k2⟩|k;exact .inl ⟨b,d,c,k1,k2.mono l⟩;exact .inr k;exact R.inj B1 B2 o1 Z Y x2 (a r).2 (a u).2 D S O M L;by_cases s:frzB σ p g b;rw[qM s]at h;exact h;rw[iT s]at h;exact R.ro b o h;obtain⟨hn,r⟩:=a h;rw[iT (λ⟨j,K,y,J,I,H,G⟩=>R.inj (T.numF p j) B K o y x (by rw[q];exact J) r I (AObj.here_of_own D) (λe=>hn ⟨j,e.symm⟩) H U G)];exact R.sep B o x r D U;by_cases s:frzB σ p g b;obtain⟨j,K,y,J,I,H,G⟩:=s;exact .inr (.inr ⟨T.numF p j,K,y,by rw[q];exact J,I,H,G⟩);rw[iT s]at h;exact .inl h
theorem frz_VR{σ':Sig}(R:Rel P σ A w)(M:σ.sub σ')(S:∀ B,σ'.f B=σ.f B){m:Nat}{e2:TypeId}(V:A.t.get B2=some (.gro els tl e2))(U:isG m=true)(D:P.cellsOf e2=gsz m)
 (j:(els++tl).length=n) (z:∀ x,σ B2=some x->σ'.ro x.1=w.heap[x.1]?):∀ v',VR σ' (.slice (some ⟨B2,0,none⟩) n m) v'->VR σ' (.func (.yield (gsz m)) ⟨els++tl⟩ ⟨[]⟩) v':=by
 have b:∀ a,(els++tl).length=0->VR σ' (.func (.yield (gsz m)) ⟨els++tl⟩ ⟨[]⟩) (.slice a 0 0):=λa h=>by
  rw[GY h];cases a with
  |none=>exact .datN _
  |some a=>exact .datE _ _ _
 intro v' y;rcases cb y U with⟨e0,a,G⟩|⟨J,d',I,K,k,l,G,hn,hc,eo⟩;rw[G];exact b a (j.trans e0);have q:σ B2=some (J,d',I):=(S B2).symm.trans l;obtain⟨ca,L,Q,g1,g2,g3,s,Z,Y⟩:=R.at V rfl q;have O:σ'.ro J=some (.cells ca e2 (L,Q)):=(z _ q).trans g1;rw[G,<-j];rw[D]at s Z;refine .dat O s (by omega) ?_;refine VRs.mono M (VRs.of_get ?_ λi v r=>?_);rw[av s];have H:(els++tl).length*gsz m<=I*gsz m:=Hn _ Y;simp only[Hd,I8,Ib];omega;obtain⟨u,k1,y⟩:=g3 i v r;refine⟨u,?_,y⟩;have C:i<(els++tl).length*gsz m:=by have:=(Gw.1 r).1;rwa[av s]at this
 rw[GW,E' C,GV,GP];simpa using k1
theorem jJ(R:Rel P σ A w){els2:Lh}{t:T AObj}(U:A.t.get B=some (.gro els tl e))(G:∀ x∈els++tl,fJ x)(D:∀ x∈els2,fJ x)(j:els2.length=(els++tl).length)
 (Q:∀ (i:Nat) (x x2:Value),(els++tl)[i]? =some x->els2[i]? =some x2->∀ v',VR σ x v'->VR σ x2 v') (S:T.set FU A.t B (.gro els2 [] e)=some t):Rel P σ ⟨t,A.next⟩ w/\Ext σ A w σ ⟨t,A.next⟩ w:=
 Rel.retell (o2:=.gro els2 [] e) R U S rfl rfl rfl (λb3 Z cp h=>by
  obtain⟨Y,q,s,M,L,K,J,I,H⟩:=h;refine⟨Y,q,s,M,L,λi u r=>?_,λx b=>?_,I,by rw[GA,j];exact H⟩;rw[GA,fA D]at r;have C:i<(els++tl).length:=by rw[<-j];exact(Gw.1 r).1
  obtain⟨v',k1,O⟩:=K i (els++tl)[i] (by rw[fA G];exact Gq C);exact⟨v',k1,Q i _ u (Gq C) r v' O⟩;rw[GA]at b;have V:x.cells.size=1:=by have:=Hu List.length (D x b);simpa using this
  cases a:els++tl with
  |nil=>rw[a]at j;have:els2=[]:=GY (by simpa using j);rw[this]at b;cases b
  |cons y l=>
  have z:y∈els++tl:=by rw[a];exact GL
  have:=Hu List.length (G y z);rw[V,<-J y z];simpa using this.symm)
theorem fR(a:Option Addr)(n m:Nat):fJ (.slice a n m):=rfl
theorem oW(f:Fn)(x y:Array Value):fJ (.func f x y):=rfl
theorem Turns.frzFam{B0:Nat}{els2:Lh}{t2:T AObj}(Q:T.getFn p A.t=some g)(O:T.setFn p A.t (λ_=>none)=some t1)
 (hB:A.t.get B0=some (.gro els tl e)) (hp:¬ T.InF p B0) (J:els2.length=(els++tl).length)
 (H:∀ (i:Nat) (x x2:Value),(els++tl)[i]? =some x->els2[i]? =some x2->∃ (j k m:Nat) (l r:Lh) (e2:TypeId),x=.slice (some ⟨T.numF p j,0,none⟩) k m/\g j=some (.gro l r e2)/\isG m=true/\E.P.cellsOf e2=gsz m/\(l++r).length=k/\x2=.func (.yield (gsz m)) ⟨l++r⟩ ⟨[]⟩)
 (I:T.set FU t1 B0 (.gro els2 [] e)=some t2):Turns E A0 n F A F ⟨t2,A.next⟩:=by
 intro S w0 a w ⟨σ,hF,R,K,X⟩;obtain⟨b,R1,X1⟩:=R.frzF Q O;have C:=IH Q;have L:t1.get B0=some (.gro els tl e):=by rw[I5 O B0 hp];exact hB
 have u:∀ (i:Nat) (x:Value),(els++tl)[i]? =some x->∃ x2,els2[i]? =some x2:=λi x q=>by have:=(Gw.1 q).1;exact⟨_,Gq (by rw[J];exact this)⟩
 have h:∀ (i:Nat) (x:Value),els2[i]? =some x->∃ x2,(els++tl)[i]? =some x2:=λi x q=>by have:=(Gw.1 q).1;exact⟨_,Gq (by rw[<-J];exact this)⟩
 obtain⟨R2,X2⟩:=jJ R1 L (λx q=>by
  obtain⟨i,z⟩:=Is.1 q;obtain⟨x2,D⟩:=u i x z;obtain⟨j,k,m,l,r,e2,s,_⟩:=H i x x2 z D;rw[s];exact fR _ _ _) (λx q=>by
  obtain⟨i,z⟩:=Is.1 q;obtain⟨x2,D⟩:=h i x z;obtain⟨j,k,m,l,r,e2,_,_,_,_,_,s⟩:=H i x2 x D z;rw[s];exact oW _ _ _) J (λi x x2 h1 D v' G=>by
  obtain⟨j,k,m,l,r,e2,s,M,Z,Y,V,U⟩:=H i x x2 h1 D;rw[U];refine frz_VR R b (λ_=>rfl) (by rw[C];exact M) Z Y V (λy hy=>qM ⟨j,_,y,M,rfl,hy,rfl⟩) v' ?_;rw[<-s];exact G) I
 have hX:=X1.trans X2;exact⟨_,hF.mono b,R2,K.sub b,X.trans hX⟩
theorem Turns.frzAt{B0 c m:Nat}{l r:Lh}{e2:TypeId}{t2:T AObj}(V:A.t.get B0=some (.gro els tl e))(I:A.t.get B2=some (.gro l r e2))(D:B0≠B2)(L:∀ x∈els++tl,fJ x)
 (z:(els++tl)[c]? =some (.slice (some ⟨B2,0,none⟩) k m)) (S:isG m=true) (H:E.P.cellsOf e2=gsz m) (u:(l++r).length=k)
 (s:T.set FU A.t B2 .dead=some t1) (C:T.set FU t1 B0 (.gro ((els++tl).set c (.func (.yield (gsz m)) ⟨l++r⟩ ⟨[]⟩)) [] e)=some t2):Turns E A0 n F A F ⟨t2,A.next⟩:=by
 intro O w0 a w ⟨σ,U,R,G,X⟩;obtain⟨y,R1,M,Q⟩:=wI R I S H u s;have b:=Ext.sub R M;have J:t1.get B0=some (.gro els tl e):=by rw[Hl s,C' D];exact V
 obtain⟨R2,Z⟩:=jJ R1 J L (λx z=>by
  rcases HT z with h|h;exact L x h;rw[h];exact oW _ _ _) (by rw[GF]) (λi x x2 K j v' q=>by
  rw[Hm]at j;split at j;rename_i Y;subst Y;split at j;simp only[osI]at j;rw[z]at K;cases K;rw[<-j];exact Q v' q;cases j;rw[K]at j;cases j;exact q) C
 exact⟨y,U.mono b,R2,G.sub b,X.trans (M.trans Z)⟩
end
end Go.AM
