/- A part of the proof. -/
import Derived.Test.YtegefclhhjbfhaaGreatDoorC
import Derived.KernelRfl
set_option linter.unusedVariables false
set_option linter.unusedSimpArgs false
set_option linter.unusedSectionVars false
namespace Go.AM
noncomputable section
abbrev _root_.Go.IQ:=@Go.AM.T.getFn_ok
abbrev _root_.Go.Jk:=@Go.AM.T.setFn_in
abbrev _root_.Go.Ja:=@Go.AM.T.setFn_out
variable {A A' A0:AH}{ag:Bool}{s:ByteArray}{E:Env}{fn:Func}{slots ws:Lg}{c els tl:Lh}{ts:List TypeId}{p:Ll}{B B2 N d k m n nx o sz:Nat}{ρ:Operand->Lj}{P:Program}{σ:Sig}{t1 t2:T AObj}{F:T Value}{e t ty:TypeId}{ie:TypeInfo}{v v' v2 x:Value}{w:World}
def sigO(σ:Sig)(k N:Nat):Sig:=⟨λB=>if B=k then σ N else σ B,σ.ro,λB=>if B=k then σ.nl N else σ.nl B⟩
theorem eN:(sigO σ k N) k=σ N:=by simp[sigO]
theorem ci(h:B≠k):(sigO σ k N) B=σ B:=by simp[sigO,h]
theorem ma(h:σ k=none):σ.sub (sigO σ k N):=⟨λB x a=>by by_cases e:B=k;subst e;rw[h]at a;cases a;rw[ci e];exact a,λ_ _ h=>h⟩
theorem Rel.focus(R:Rel P σ A w){o:AObj}(I:A.t.get N=some o)(X:N<A.next)
 (Q:∀ B,t2.get B=if B=A.next then some o else if B=N then none else A.t.get B):Rel P (sigO σ A.next N) ⟨t2,A.next+1⟩ w:=by
 have V:σ A.next=none:=R.fresh _ (GK _)
 have S:=ma (N:=N) V;have j:∀ {B a},B≠A.next->t2.get B=some a->B≠N/\A.t.get B=some a:=fun {B a} C h=>by rw[Q,D' C]at h;by_cases e:B=N;rw[Gw e]at h;cases h;rw[D' e]at h;exact⟨e,h⟩
 have q:∀ {a},t2.get A.next=some a->a=o:=λh=>by rw[Q,Gw rfl]at h;cases h;rfl
 refine⟨?_,?_,?_,?_,R.ro,?_,?_⟩;intro B a h z;by_cases e:B=A.next
 subst e;obtain rfl:=q h;rcases R.obj0 N a I z with⟨b,d,c,i,f⟩|⟨i,f⟩;exact .inl ⟨b,d,c,by rw[eN];exact i,f.mono S⟩;refine .inr ⟨i,?_⟩;show(if A.next=A.next then σ.nl N else σ.nl A.next);rw[Gw rfl];exact f;obtain⟨_,i⟩:=j e h;rcases R.obj0 B a i z with⟨b,d,c,f,H⟩|⟨f,H⟩;exact .inl ⟨b,d,c,by rw[ci e];exact f,H.mono S⟩;refine .inr ⟨f,?_⟩;show(if B=A.next then σ.nl N else σ.nl B);rw[D' e];exact H;intro M B2 a K J x2 i f y z G l g;by_cases L:M=A.next
 subst L;have D:B2≠A.next:=λe=>G e.symm
 obtain rfl:=q i;obtain⟨O,f⟩:=j D f;rw[eN]at l;rw[ci D]at g;exact R.inj N B2 a K J x2 I f y z (λe=>O e.symm) l g;obtain⟨U,i⟩:=j L i;rw[ci L]at l;by_cases D:B2=A.next
 subst D;obtain rfl:=q f;rw[eN]at g;exact R.inj M N a K J x2 i I y z U l g;obtain⟨O,f⟩:=j D f;rw[ci D]at g;exact R.inj M B2 a K J x2 i f y z G l g;intro B x r;by_cases e:B=A.next
 subst e;rw[eN]at r;exact R.lt N x r;rw[ci e]at r;exact R.lt B x r;intro B C;have C:A.next+1<=B:=C
 rw[ci (by omega)];exact R.fresh B (by omega);intro B a x h y r;show σ.ro x.1=none;by_cases e:B=A.next
 subst e;obtain rfl:=q h;rw[eN]at r;exact R.sep N a x I y r;obtain⟨_,i⟩:=j e h;rw[ci e]at r;exact R.sep B a x i y r;intro B C;have u:(if B=A.next then σ.nl N else σ.nl B):=C;by_cases e:B=A.next
 rw[Gw e]at u;have H:=(R.nl N u).2;subst e;exact⟨IC _,by rw[eN];exact H⟩;rw[D' e]at u;have:=R.nl B u;exact⟨Nat.lt_succ_of_lt this.1,by rw[ci e];exact this.2⟩
theorem Ext.focus{o:AObj}(q:A.t.get N=some o)
 (l:∀ B,t2.get B=if B=A.next then some o else if B=N then none else A.t.get B):Ext σ A w (sigO σ A.next N) ⟨t2,A.next+1⟩ w:=by
 have f:∀ {B a},B≠A.next->t2.get B=some a->A.t.get B=some a:=fun {B a} j h=>by rw[l,D' j]at h;by_cases e:B=N;rw[Gw e]at h;cases h;rw[D' e]at h;exact h
 have g:∀ {a},t2.get A.next=some a->a=o:=λh=>by rw[l,Gw rfl]at h;cases h;rfl
 refine⟨λB j=>ci (by omega),I1 _,GK _,λ_ _ _=>rfl,?_,?_,rfl,rfl,rfl,λ_ _ h=>h,λ_ _ h=>.inl h,λB j=>?_⟩;intro B a x h i b;by_cases e:B=A.next
 subst e;obtain rfl:=g h;rw[eN]at b;exact .inr ⟨N,a,x,q,i,b,rfl⟩;rw[ci e]at b;exact .inr ⟨B,a,x,f e h,i,b,rfl⟩;intro B a x h i b;by_cases e:B=A.next
 subst e;obtain rfl:=g h;rw[eN]at b;exact .inr ⟨N,a,x,q,i,b,rfl⟩;rw[ci e]at b;exact .inr ⟨B,a,x,f e h,i,b,rfl⟩;show(if B=A.next then σ.nl N else σ.nl B)↔σ.nl B;rw[D' (by omega)]
def gEls:Option AObj->Lh
 |some (.gro els _ _)=>els
 |_=>[]
def foK (fo:Option (Li×TypeId))(v:Value)(A:AH)(K:Value->AH->Prop):Prop:=match fo with
 |none=>K v A
 | some (p,e)=>(match v with
   | .slice (some ⟨B,0,none⟩) n m=>(match T.getFn p A.t with
     | some g=>(match T.setFn p A.t (λj=>bif Nat.beq j (T.unF p B)then none else g j)with
       | some t1=>(match T.set FU t1 A.next (.gro (gEls (g (T.unF p B))) [] e)with
         | some t2=>bif Nat.beq (T.numF p (T.unF p A.next)) A.next then False else
          (T.numF p (T.unF p B)=B/\B<A.next)/\g (T.unF p B)=some (.gro (gEls (g (T.unF p B))) [] e)/\K (.slice (some ⟨A.next,0,none⟩) n m) ⟨t2,A.next+1⟩
         |none=>False)
       |none=>False)
     |none=>False)
   |_=>K v A)
theorem VR.focus(h:VR σ (.slice (some ⟨B,0,none⟩) n m) v'):VR (sigO σ k B) (.slice (some ⟨k,0,none⟩) n m) v':=by
 have f:∀ {x},σ B=some x->(sigO σ k B) k=some x:=λh=>by rw[eN];exact h
 cases h with
 |slice _ _ _ h q=>exact .slice _ _ _ (f h) q
 |sliceU _ h b=>exact .sliceU _ (f h) b
 |sliceV _ _ _ h b=>exact .sliceV _ _ _ (f h) b
 |sliceE=>exact .sliceE _ _ _
 |gs0 _ _ _ a g=>exact .gs0 _ _ _ a g
 |gs i u y j m h b r l g=>exact .gs i _ _ j _ (f h) b r l g
theorem foK_ok{M:Option (Li×TypeId)}{K:Value->AH->Prop}(h:foK M v A K)(q:VR σ v v')(R:Rel P σ A w):∃ v2 y a,K v2 y/\VR a v2 v'/\Rel P a y w/\Ext σ A w a y w:=by
 unfold foK at h;split at h;exact⟨v,A,σ,h,q,R,Ext.refl _ _ _⟩;rename_i p e;split at h;rename_i B n m;split at h;rename_i g D;split at h;rename_i t1 H;split at h;rename_i t2 L;cases f:Nat.beq (T.numF p (T.unF p A.next)) A.next with
 |true=>rw[f]at h;exact h.elim
 | false=>
  rw[f]at h;obtain⟨⟨u,Q⟩,O,k⟩:=h;have I:¬ T.InF p A.next:=λ⟨i,b⟩=>by rw[b,T.unF_numF]at f;simp[GL]at f
  have G:A.t.get B=some (.gro (gEls (g (T.unF p B))) [] e):=by have:=IQ D (T.unF p B);rw[u]at this;rw[this];exact O
  have z:∀ C,t2.get C=if C=A.next then some (.gro (gEls (g (T.unF p B))) [] e)else if C=B then none else A.t.get C:=λC=>by
   rw[Hp L];by_cases l:C=A.next
   rw[Gw l,Gw l];rw[D' l,D' l];by_cases b:T.InF p C;obtain⟨i,rfl⟩:=b;rw[Jk H,IQ D];by_cases j:i=T.unF p B;have:Nat.beq i (T.unF p B)=true:=by rw[j];simp[GL]
   rw[this,Gw (by rw[j];exact u)];rfl;have:Nat.beq i (T.unF p B)=false:=by cases J:Nat.beq i (T.unF p B);rfl;exact absurd (Gy J) j
   rw[this,D' (λr=>j (by rw[<-r,T.unF_numF]))];rfl;rw[Ja H C b,D' (λr=>b ⟨T.unF p B,by rw[r];exact u.symm⟩)]
  exact⟨_,_,_,k,q.focus,Rel.focus R G Q z,Ext.focus G z⟩
 exact h.elim;exact h.elim;exact h.elim;exact⟨_,A,σ,h,q,R,Ext.refl _ _ _⟩
abbrev KF:=T Value->AH->Prop
def oT(o lo:Nat)(els:Lh):Lh:=match Nat.beq o 0 with
 |true=>els
 |false=>els.drop lo
theorem sq(els:Lh):oT o (gLo sz o) els=els.drop (gLo sz o):=by
 unfold oT;split;rename_i h;have:=Gy h;subst this;have:gLo sz 0=0:=by unfold gLo;cases Nat.beq sz 1<;>simp
 rw[this];rfl;rfl
inductive NPos where
 |slot (t:Nat)
 |cell (t j:Nat)
 |made (t:Nat)
 |cutS (t:Nat)
 |cutC (t:Nat) (js:Lg) (j:Nat)
 |nilC (t:Nat) (js:Lg) (j:Nat)
 |emp (t:Nat)
 |groC (t:Nat) (js:Lg) (j:Nat)
def resB(A:AH)(js:Lg):Nat->Lk:=
 List.rec (motive:=λ_=>Nat->Lk) (λB=>some B) (λj _ ih B=>match A.t.get B with
  | some (.cells c _)=>(match nth c j with
    |some (.pointer (some ⟨B2,0,none⟩))=>ih B2
    |_=>none)
  |_=>none) js
def y5 (E : Env) (p :NPos)(e:TypeId)(sz:Nat)(F:T Value)(A:AH)(K:KF):Prop:=
 match p with
 | .slot t => (match F.get t with
   | some (.slice none n k)=>bif Nat.beq n 0&&Nat.beq k 0 then(match T.set 64 F t (.slice (some ⟨A.next,0,none⟩) 0 (unk+3+sz)),T.set FU A.t A.next (.gro [] [] e)with
     |some F1,some t1=>K F1 ⟨t1,A.next+1⟩
     |_,_=>False)else False
   | some (.slice (some ⟨B,0,none⟩) n k)=>(match A.t.get B with
     | some (.cells c eb)=>(match Nat.blt k unk,E.ti eb,und E eb with
       | true,some ie,some d=>(match((Nat.beq n k&&Nat.blt 0 n)&&(Nat.blt 0 ie.size&&Nat.ble ie.size 65536))&&((Nat.beq c.length (n*ie.size)&&c.all cellv)&&(br d||Nat.beq ie.size 1))with
         | true=>(match T.set 64 F t (.slice (some ⟨A.next,0,none⟩) n (unk+3+ie.size)),T.set FU A.t B .dead with
           | some F1,some t1=>(match T.set FU t1 A.next (.gro (eI (br d) ie.size n c) [] eb)with
             |some t2=>K F1 ⟨t2,A.next+1⟩
             |none=>False)
           |_,_=>False)
         |false=>K F A)
       |_,_,_=>K F A)
     |_=>K F A)
   |_=>K F A)
 | .made t =>(match F.get t with
   | some (.slice (some ⟨B,0,none⟩) n k)=>(match A.t.get B with
     | some (.cells c eb)=>(match E.ti eb with
       | some ie=>bif Nat.beq ie.size 1 then(match T.set 64 F t (.slice (some ⟨A.next,0,none⟩) n (unk+3+ie.size)),T.set FU A.t B .dead with
        | some F1,some t1=>(match T.set FU t1 A.next (.gro c [] eb)with
          |some t2=>(n=k/\0<n/\n<unk/\c.length=n/\c.all cellv=true)/\K F1 ⟨t2,A.next+1⟩
          |none=>False)
        |_,_=>False)else False
       |none=>False)
     |_=>K F A)
   |_=>K F A)
 | .cell t j=>(match F.get t with
   | some (.pointer (some ⟨B,0,none⟩))=>(match A.t.get B with
     | some (.cells c eb)=>(match nth c j with
       | some (.slice none n k)=>bif Nat.beq n 0&&Nat.beq k 0 then(match T.set FU A.t B (.cells (c.set j (.slice (some ⟨A.next,0,none⟩) 0 (unk+3+sz))) eb)with
         | some t1=>(match T.set FU t1 A.next (.gro [] [] e)with
           |some t2=>K F ⟨t2,A.next+1⟩
           |none=>False)
         |none=>False)else False
       |_=>K F A)
     | some (.arr els rest nn eb)=>(match nth rest (j-nn)with
       | some (.slice none n k)=>bif Nat.beq n 0&&Nat.beq k 0 then(match T.set FU A.t B (.arr els (rest.set (j-nn) (.slice (some ⟨A.next,0,none⟩) 0 (unk+3+sz))) nn eb)with
         | some t1=>(match T.set FU t1 A.next (.gro [] [] e)with
           |some t2=>K F ⟨t2,A.next+1⟩
           |none=>False)
         |none=>False)else False
       |_=>K F A)
     |_=>K F A)
   |_=>K F A)
 | .cutS t =>(match F.get t with
   | some (.slice (some ⟨B,o,none⟩) n m)=>(match isG m,A.t.get B with
     | true,some (.gro els tl eb)=>(match E.ti eb with
       | some ie=>bif Nat.beq (gsz m) ie.size&&Nat.blt 0 ie.size then(match T.set 64 F t (.slice (some ⟨A.next,0,none⟩) n m),T.set FU A.t B .dead with
         | some F1,some t1=>(match T.set FU t1 A.next (.gro ((oT o (gLo ie.size o) (glue els tl)).take n) [] eb)with
           |some t2=>n+gLo ie.size o<=(glue els tl).length/\K F1 ⟨t2,A.next+1⟩
           |none=>False)
         |_,_=>False)else False
       |none=>False)
     |_,_=>K F A)
   |_=>K F A)
 | .cutC t js j => (match F.get t with
   | some (.pointer (some ⟨B0,0,none⟩))=>(match resB A js B0 with
     | some B => (match A.t.get B with
       | some (.cells c eb)=>(match nth c j with
         | some (.slice (some ⟨B2,o,none⟩) n m)=>(match isG m,A.t.get B2 with
           | true, some (.gro els tl e2)=>(match E.ti e2 with
             | some ie=>bif Nat.beq (gsz m) ie.size&&Nat.blt 0 ie.size then(match T.set FU A.t B2 .dead with
               | some t1=>(match T.set FU t1 A.next (.gro ((oT o (gLo ie.size o) (glue els tl)).take n) [] e2)with
                 | some t2=>(match T.set FU t2 B (.cells (c.set j (.slice (some ⟨A.next,0,none⟩) n m)) eb)with
                   |some t3=>n+gLo ie.size o<=(glue els tl).length/\K F ⟨t3,A.next+1⟩
                   |none=>False)
                 |none=>False)
               |none=>False)else False
             |none=>False)
           |_,_=>K F A)
         |_=>K F A)
       |_=>K F A)
     |none=>K F A)
   |_=>K F A)
 | .nilC t js j=>(match F.get t with
   | some (.pointer (some ⟨B0,0,none⟩))=>(match resB A js B0 with
     | some B =>(match A.t.get B with
       | some (.cells c eb)=>(match nth c j with
         | some (.slice none n k)=>bif Nat.beq n 0&&Nat.beq k 0 then(match T.set FU A.t B (.cells (c.set j (.slice (some ⟨A.next,0,none⟩) 0 (unk+3+sz))) eb)with
           | some t1=>(match T.set FU t1 A.next (.gro [] [] e)with
             |some t2=>K F ⟨t2,A.next+1⟩
             |none=>False)
           |none=>False)else False
         |_=>K F A)
       |_=>K F A)
     |none=>K F A)
   |_=>K F A)
 | .emp t =>(match F.get t with
   | some (.slice (some ⟨B,0,none⟩) n k)=>(match A.t.get B with
     | some (.cells c eb)=>(match E.ti eb with
       | some ie=>bif ((Nat.beq n 0&&Nat.beq k 0)&&Nat.beq c.length 0)&&(Nat.blt 0 ie.size&&Nat.ble ie.size 65536)then(match T.set 64 F t (.slice (some ⟨A.next,0,none⟩) 0 (unk+3+ie.size)),T.set FU A.t B .dead with
        | some F1,some t1=>(match T.set FU t1 A.next (.gro [] [] eb)with
          |some t2=>K F1 ⟨t2,A.next+1⟩
          |none=>False)
        |_,_=>False)else False
       |none=>False)
     |_=>K F A)
   |_=>K F A)
 | .groC t js j => (match F.get t with
   | some (.pointer (some ⟨B0,0,none⟩))=>(match resB A js B0 with
     | some B => (match A.t.get B with
       | some (.cells c eb)=>(match nth c j with
         | some (.slice (some ⟨B2,0,none⟩) n k)=>(match A.t.get B2 with
           | some (.cells c2 e2)=>(match E.ti e2,und E e2 with
             | some ie,some d=>bif ((Nat.blt k unk&&Nat.beq n k)&&(Nat.blt 0 ie.size&&Nat.ble ie.size 65536))&&(((Nat.beq c2.length (n*ie.size)&&c2.all cellv)&&(br d||Nat.beq ie.size 1))&& !Nat.beq B B2)then(match T.set FU A.t B2 .dead with
               | some t1=>(match T.set FU t1 A.next (.gro (eI (br d) ie.size n c2) [] e2)with
                 | some t2=>(match T.set FU t2 B (.cells (c.set j (.slice (some ⟨A.next,0,none⟩) n (unk+3+ie.size))) eb)with
                   |some t3=>K F ⟨t3,A.next+1⟩
                   |none=>False)
                 |none=>False)
               |none=>False)else False
             |_,_=>False)
           |_=>K F A)
         |_=>K F A)
       |_=>K F A)
     |none=>K F A)
   |_=>K F A)
theorem OR.cut{b:Sig}{ob:Option Obj}{c lo:Nat}(h:OR P σ ob d c (.gro els tl e))(q:σ.sub b)(a:P.cellsOf e=sz)(r:n<=k)(l:lo+k<=c):OR P b ob (d+lo*sz) k (.gro (((els++tl).drop lo).take n) [] e):=by obtain⟨J,l0,y,G,D,C,j,z,K⟩:=h;rw[a]at j z;have u:(lo+k)*sz<=c*sz:=Hr _ l;rw[Ib]at u;refine⟨J,l0,y,G,D,λi v f=>?_,λx g=>?_,?_,?_⟩;rw[GG,<-cd n (λx g=>j x (Ig g)),<-bT lo j,GZ]at f;split at f;rw[GV]at f;obtain⟨v1,I,H⟩:=C _ v f;exact⟨v1,by rw[Hs];exact I,H.mono q⟩;cases f;rw[GG]at g;rw[a];exact j x (Ig (H5 g));rw[a];omega;rw[GG,Hh];omega
theorem oW(I:E.Ok)(R:Rel E.P σ A w)(J:VR σ (.slice (some ⟨B2,o,none⟩) n m) v')(z:isG m=true)(i:A.t.get B2=some (.gro els tl e))(y:E.ti e=some ie)(q:gsz m=ie.size)(j:0<ie.size)(L:n+gLo ie.size o<=(glue els tl).length)
 (g:T.set FU A.t B2 .dead=some t1) (a:T.set FU t1 A.next (.gro ((oT o (gLo ie.size o) (glue els tl)).take n) [] e)=some t2):∃ f,σ.sub f/\Rel E.P f ⟨t2,A.next+1⟩ w/\Ext σ A w f ⟨t2,A.next+1⟩ w/\VR f (.slice (some ⟨A.next,0,none⟩) n m) v':=by
 rw[sq]at a;rcases b8 J z with⟨rfl,O,rfl⟩|⟨b2,u,M,r,k,b,rfl,l,D,rfl⟩;rw[List.take_zero]at a;obtain⟨H,G⟩:=Rel.nilGro (R.dead g) a;exact⟨nilU σ A.next,dR _ _,H,(Ext.dead g).trans G,VR.gs0Mk _ _ m O z⟩;rw[q,lp j,cb]at L a;have C:E.P.cellsOf e=ie.size:=by simp[Program.cellsOf,I.ti _ _ y]
 have h:σ.sub (upd σ A.next (b2,u+r*ie.size,k)):=ch (R.fresh _ (GK _));refine⟨_,h,R.move (w':=w) (d2:=u+r*ie.size) (c2:=k) i rfl b g a rfl rfl (λ_ _=>rfl) (OR.cut (R.at i rfl b) h C l D),Ext.move R i rfl b g a rfl (λ_ _=>rfl) rfl rfl rfl,?_⟩;rw[q];have K:=VR.gsMk (σ:=upd σ A.next (b2,u+r*ie.size,k)) (lo:=0) (n:=n) (k:=k) (m:=m) bF z l (JR (H8 _));simpa using K
theorem Turns.cutSlot(D:E.Ok){G:Nat}{F1:T Value}{t:Nat}(J:F.get t=some (.slice (some ⟨B2,o,none⟩) n m))(K:isG m=true)(u:A.t.get B2=some (.gro els tl e))(l:E.ti e=some ie)(q:gsz m=ie.size)(f:0<ie.size)(I:n+gLo ie.size o<=(glue els tl).length)
 (L:T.set 64 F t (.slice (some ⟨A.next,0,none⟩) n m)=some F1) (j:T.set FU A.t B2 .dead=some t1) (i:T.set FU t1 A.next (.gro ((oT o (gLo ie.size o) (glue els tl)).take n) [] e)=some t2):Turns E A0 G F A F1 ⟨t2,A.next+1⟩:=by intro C S a w ⟨σ,g,R,r,X⟩;obtain⟨h,z,Q,O,H⟩:=oW D R (g.val t _ J) K u l q f I j i;refine⟨h,⟨g.size,λy v b=>?_,g.defers⟩,Q,r.sub z,X.trans O⟩;have b:F1.get y=some v:=b;rw[Hp L]at b;split at b;rename_i M;subst M;cases b;exact H;exact(g.val y v b).mono z
theorem Turns.cutCell(ok:E.Ok){m0:Nat}{j:Nat}{G:TypeId}{t3:T AObj}(U:A.t.get B=some (.cells c G))(hj:c[j]? =some (.slice (some ⟨B2,o,none⟩) n m))(hg:isG m=true)(r:A.t.get B2=some (.gro els tl e))(M:E.ti e=some ie)(Q:gsz m=ie.size)(C:0<ie.size)(hn:n+gLo ie.size o<=(glue els tl).length)
 (z:T.set FU A.t B2 .dead=some t1) (y:T.set FU t1 A.next (.gro ((oT o (gLo ie.size o) (glue els tl)).take n) [] e)=some t2) (I:T.set FU t2 B (.cells (c.set j (.slice (some ⟨A.next,0,none⟩) n m)) G)=some t3):Turns E A0 m0 F A F ⟨t3,A.next+1⟩:=by
 intro a0 w0 a w ⟨σ,hF,R,S,X⟩;obtain⟨b,d,cp,q,c',a1,a2,q1,q2,q3,q4⟩:=R.obj B _ U rfl;obtain⟨v',k1,k2⟩:=q3 j _ hj;have L:B≠B2:=by intro Y;subst Y;rw[U]at r;cases r
 have K:B≠A.next:=by intro Y;rw[Y,R.fresh _ (GK _)]at q;cases q
 have D:t2.get B=some (.cells c G):=by rw[Hp y,D' K,Hp z,D' L];exact U
 obtain⟨u,J,R1,X1,hv⟩:=oW ok R k2 hg r M Q C hn z y;obtain⟨p1,p2⟩:=Rel.retellAt (o2:=.cells (c.set j (.slice (some ⟨A.next,0,none⟩) n m)) G) R1 D I rfl rfl rfl (λb1 d1 Z l h=>by
  have hb:=J.f B _ q;have l:u.f B=some (b1,d1,Z):=l;rw[hb]at l;cases l;obtain⟨c2,H,O,V,h2,h3,h4⟩:=h;refine⟨c2,H,O,V,h2,λi v g=>?_,h4⟩;rw[Hq]at g;split at g;rename_i e1;subst e1;split at g;cases g;have ec:c2=c':=by rw[q1]at V;cases V;rfl
  exact⟨v',by rw[ec];exact k1,hv⟩;cases g;exact h3 i v g)
 exact⟨u,hF.mono J,p1,S.sub J,X.trans (X1.trans p2)⟩
theorem oG(Y:E.Ok)(R:Rel E.P σ A w)(r:VR σ (.slice (some ⟨B,0,none⟩) n n) v')(hk:n<unk)(L:A.t.get B=some (.cells c e))(I:E.ti e=some ie)(K:ag=true∨ie.size=1)(a0:0<ie.size)(a1:ie.size<=65536)(C:c.length=n*ie.size)(J:c.all cellv=true)
 (y:T.set FU A.t B .dead=some t1) (u:T.set FU t1 A.next (.gro (eI ag ie.size n c) [] e)=some t2):∃ f,σ.sub f/\Rel E.P f ⟨t2,A.next+1⟩ w/\Ext σ A w f ⟨t2,A.next+1⟩ w/\VR f (.slice (some ⟨A.next,0,none⟩) n (unk+3+ie.size)) v':=by
 obtain⟨b,d,cp,l,G,M,hi,g1,g2,S,g4,g5⟩:=R.obj B _ L rfl;obtain⟨k1,k2,Z⟩:=g9 (agg:=ag) K n c C J;have D:E.P.cellsOf e=ie.size:=by simp[Program.cellsOf,Y.ti _ _ I]
 have j:=ch (σ:=σ) (id:=A.next) (x:=(b,d,n)) (R.fresh _ (GK _));have g:d+n*ie.size<=G.size:=by
  by_cases h0:n*ie.size=0;rw[h0];omega;have hl:n*ie.size-1<c.length:=by omega
  obtain⟨v',U,_⟩:=S (n*ie.size-1) c[n*ie.size-1] (E' hl);have:d+(n*ie.size-1)<G.size:=by rcases Hg (d+(n*ie.size-1)) G.size with h|h;exact h;rw[He h]at U;cases U
  omega
 refine⟨upd σ A.next (b,d,n),j,R.move (w':=w) (d2:=d) (c2:=n) L rfl l y u rfl rfl (λ_ _=>rfl) ⟨G,M,hi,g1,g2,λi v O=>?_,?_,?_,?_⟩,Ext.move R L rfl l y u rfl (λ_ _=>rfl) rfl rfl rfl,?_⟩;rw[GG,k1]at O;obtain⟨v',X,V⟩:=S i v O;exact⟨v',X,V.mono j⟩;rw[GG,D];exact k2;rw[D];exact g;rw[GG,Z];exact GK _;generalize H:n=n1 at r;generalize a2:n1=n2 at r;cases r with
 |slice i q k z a3=>rw[l]at z;cases z;subst H;exact .gs 0 0 _ _ _ bF (by omega) (by omega) (by omega) (by omega)
 |sliceU q z Q=>omega
 |sliceV i q k z Q=>omega
 |gs0 B o m a hm=>omega
 |gs M o q k m z Q hc ho hm=>omega
theorem Turns.groSlot(H:E.Ok){F1:T Value}{t:Nat}(I:F.get t=some (.slice (some ⟨B,0,none⟩) n n))(J:n<unk)(M:A.t.get B=some (.cells c e))(u:E.ti e=some ie)(z:ag=true∨ie.size=1)(q:0<ie.size)(r:ie.size<=65536)(f:c.length=n*ie.size)(y:c.all cellv=true)
 (L:T.set 64 F t (.slice (some ⟨A.next,0,none⟩) n (unk+3+ie.size))=some F1) (l:T.set FU A.t B .dead=some t1) (j:T.set FU t1 A.next (.gro (eI ag ie.size n c) [] e)=some t2):Turns E A0 m F A F1 ⟨t2,A.next+1⟩:=by intro G U a w ⟨σ,g,R,K,X⟩;obtain⟨h,D,S,Q,i⟩:=oG H R (g.val t _ I) J M u z q r f y l j;refine⟨h,⟨g.size,λC v b=>?_,g.defers⟩,S,K.sub D,X.trans Q⟩;have b:F1.get C=some v:=b;rw[Hp L]at b;split at b;rename_i O;subst O;cases b;exact i;exact(g.val C v b).mono D
theorem Turns.groCell(ok:E.Ok){j:Nat}{c2:Lh}{D:TypeId}{t3:T AObj}(hB:A.t.get B=some (.cells c D))(hj:c[j]? =some (.slice (some ⟨B2,0,none⟩) n n))(M:B≠B2)(hk:n<unk)(Y:A.t.get B2=some (.cells c2 e))(O:E.ti e=some ie)(V:ag=true∨ie.size=1)(I:0<ie.size)(J:ie.size<=65536)(z:c2.length=n*ie.size)(U:c2.all cellv=true)
 (y:T.set FU A.t B2 .dead=some t1) (u:T.set FU t1 A.next (.gro (eI ag ie.size n c2) [] e)=some t2) (H:T.set FU t2 B (.cells (c.set j (.slice (some ⟨A.next,0,none⟩) n (unk+3+ie.size))) D)=some t3):Turns E A0 m F A F ⟨t3,A.next+1⟩:=by
 intro a1 w0 a w ⟨σ,hF,R,S,X⟩;obtain⟨b,d,cp,q,c',a2,a3,q1,q2,q3,q4⟩:=R.obj B _ hB rfl;obtain⟨v',k1,k2⟩:=q3 j _ hj;have L:B≠A.next:=by intro e';rw[e',R.fresh _ (GK _)]at q;cases q
 have C:t2.get B=some (.cells c D):=by rw[Hp u,D' L,Hp y,D' M];exact hB
 obtain⟨r,K,R1,X1,hv⟩:=oG ok R k2 hk Y O V I J z U y u;obtain⟨p1,p2⟩:=Rel.retellAt (o2:=.cells (c.set j (.slice (some ⟨A.next,0,none⟩) n (unk+3+ie.size))) D) R1 C H rfl rfl rfl (λb1 d1 a0 l h=>by
  have hb:=K.f B _ q;have l:r.f B=some (b1,d1,a0):=l;rw[hb]at l;cases l;obtain⟨c2,G,Q,Z,h2,h3,h4⟩:=h;refine⟨c2,G,Q,Z,h2,λi v g=>?_,h4⟩;rw[Hq]at g;split at g;rename_i e1;subst e1;split at g;cases g;have ec:c2=c':=by rw[q1]at Z;cases Z;rfl
  exact⟨v',by rw[ec];exact k1,hv⟩;cases g;exact h3 i v g)
 exact⟨r,hF.mono K,p1,S.sub K,X.trans (X1.trans p2)⟩
theorem oX:∀ (n:Nat) (c:Lh),c.length=n->eI false 1 n c=c
 |0,c,h=>by rw[Hb h];rfl
 |n+1,[],h=>by simp at h
 |n+1,v::c,h=>by have:eI false 1 (n+1) (v::c)=v::eI false 1 n c:=rfl;rw[this,oX n c (by simpa using h)]
theorem y0(I:E.Ok){p:NPos}{K:KF}(h:y5 E p e sz F A K):∃ F1 A1,K F1 A1/\Turns E A0 n F A F1 A1:=by
 unfold y5 at h;split at h;rename_i t;split at h;rename_i q C u;cases a:(Nat.beq q 0&&Nat.beq C 0);rw[a]at h;exact h.elim;rw[a]at h;simp only[f',GL]at a;obtain⟨rfl,rfl⟩:=a;simp only[C']at h;split at h;rename_i F1 t1 hF ht;exact⟨F1,_,h,Turns.nilSlot (Ir _ _) u hF ht⟩;exact h.elim;rename_i B q C u;split at h;rename_i c G l;split at h;rename_i ie d Z g hd;split at h;rename_i hc;simp only[f',HR,GL,HY,GO]at hc;obtain⟨⟨⟨rfl,c1⟩,J,V⟩,⟨U,c5⟩,c6⟩:=hc;rw[HY]at Z;split at h;rename_i F1 t1 i f;split at h;rename_i t2 b;exact⟨F1,_,h,Turns.groSlot I u Z l g c6 J V U c5 i f b⟩;exact h.elim;exact h.elim;exact⟨F,A,h,Turns.refl⟩;exact⟨F,A,h,Turns.refl⟩;exact⟨F,A,h,Turns.refl⟩;exact⟨F,A,h,Turns.refl⟩;rename_i t;split at h;rename_i B z q u;split at h;rename_i c G l;split at h;rename_i ie g;cases a:Nat.beq ie.size 1;rw[a]at h;exact h.elim;rw[a]at h;simp only[C']at h;rw[GL]at a;split at h;rename_i F1 t1 i f;split at h;rename_i t2 b;obtain⟨⟨rfl,c1,J,V,U⟩,h⟩:=h;rw[<-oX z c V,<-a]at b;exact⟨F1,_,h,Turns.groSlot I u J l g (.inr a) (by omega) (by omega) (by rw[a];omega) U i f b⟩;exact h.elim;exact h.elim;exact h.elim;exact⟨F,A,h,Turns.refl⟩;exact⟨F,A,h,Turns.refl⟩;rename_i t j;split at h;rename_i B u;split at h;rename_i c G l;split at h;rename_i q C r;rw[aN]at r;cases a:(Nat.beq q 0&&Nat.beq C 0);rw[a]at h;exact h.elim;rw[a]at h;simp only[f',GL]at a;obtain⟨rfl,rfl⟩:=a;simp only[C']at h;split at h;rename_i t1 f;split at h;rename_i t2 b;exact⟨F,_,h,Turns.nilCell (Ir _ _) l r f b⟩;exact h.elim;exact h.elim;exact⟨F,A,h,Turns.refl⟩;rename_i els X nn G l;split at h;rename_i q C r;rw[aN]at r;cases a:(Nat.beq q 0&&Nat.beq C 0);rw[a]at h;exact h.elim;rw[a]at h;simp only[f',GL]at a;obtain⟨rfl,rfl⟩:=a;simp only[C']at h;split at h;rename_i t1 f;split at h;rename_i t2 b;exact⟨F,_,h,Turns.nilArr (Ir _ _) l r f b⟩;exact h.elim;exact h.elim;exact⟨F,A,h,Turns.refl⟩;exact⟨F,A,h,Turns.refl⟩;exact⟨F,A,h,Turns.refl⟩;rename_i t;split at h;rename_i B o z L u;split at h;rename_i els tl G Q y;split at h;rename_i ie g;cases a:(Nat.beq (gsz L) ie.size&&Nat.blt 0 ie.size);rw[a]at h;exact h.elim;rw[a]at h;simp only[f',GL,HY]at a;simp only[C']at h;split at h;rename_i F1 t1 i f;split at h;rename_i t2 b;exact⟨F1,_,h.2,Turns.cutSlot I u Q y g a.1 a.2 h.1 i f b⟩;exact h.elim;exact h.elim;exact h.elim;exact⟨F,A,h,Turns.refl⟩;exact⟨F,A,h,Turns.refl⟩;rename_i t Y j;split at h;rename_i B0 u;split at h;rename_i B D;split at h;rename_i c G l;split at h;rename_i B2 o z L r;rw[aN]at r;split at h;rename_i els tl e2 Q y;split at h;rename_i ie g;cases a:(Nat.beq (gsz L) ie.size&&Nat.blt 0 ie.size);rw[a]at h;exact h.elim;rw[a]at h;simp only[f',GL,HY]at a;simp only[C']at h;split at h;rename_i t1 f;split at h;rename_i t2 b;split at h;rename_i t3 H;exact⟨F,_,h.2,Turns.cutCell I l r Q y g a.1 a.2 h.1 f b H⟩;exact h.elim;exact h.elim;exact h.elim;exact h.elim;exact⟨F,A,h,Turns.refl⟩;exact⟨F,A,h,Turns.refl⟩;exact⟨F,A,h,Turns.refl⟩;exact⟨F,A,h,Turns.refl⟩;exact⟨F,A,h,Turns.refl⟩;rename_i t Y j;split at h;rename_i B0 u;split at h;rename_i B D;split at h;rename_i c G l;split at h;rename_i q C r;rw[aN]at r;cases a:(Nat.beq q 0&&Nat.beq C 0);rw[a]at h;exact h.elim;rw[a]at h;simp only[f',GL]at a;obtain⟨rfl,rfl⟩:=a;simp only[C']at h;split at h;rename_i t1 f;split at h;rename_i t2 b;exact⟨F,_,h,Turns.nilCell (Ir _ _) l r f b⟩;exact h.elim;exact h.elim;exact⟨F,A,h,Turns.refl⟩;exact⟨F,A,h,Turns.refl⟩;exact⟨F,A,h,Turns.refl⟩;exact⟨F,A,h,Turns.refl⟩;rename_i t;split at h;rename_i B z q u;split at h;rename_i c G l;split at h;rename_i ie g;cases a:((Nat.beq z 0&&Nat.beq q 0)&&Nat.beq c.length 0)&&(Nat.blt 0 ie.size&&Nat.ble ie.size 65536);rw[a]at h;exact h.elim;rw[a]at h;simp only[C']at h;simp only[f',GL,HY,GO]at a;obtain⟨⟨⟨rfl,rfl⟩,S⟩,O,M⟩:=a;split at h;rename_i F1 t1 i f;split at h;rename_i t2 b;have R:c=[]:=Hb S;exact⟨F1,_,h,Turns.groSlot (ag:=true) I u (by unfold unk;omega) l g (.inl rfl) O M (by omega) (by rw[R];rfl) i f b⟩;exact h.elim;exact h.elim;exact h.elim;exact⟨F,A,h,Turns.refl⟩;exact⟨F,A,h,Turns.refl⟩;rename_i t Y j;split at h;rename_i B0 u;split at h;rename_i B D;split at h;rename_i c G l;split at h;rename_i B2 z q r;rw[aN]at r;split at h;rename_i J e2 y;split at h;rename_i ie d g hd;cases a:((Nat.blt q unk&&Nat.beq z q)&&(Nat.blt 0 ie.size&&Nat.ble ie.size 65536))&&(((Nat.beq J.length (z*ie.size)&&J.all cellv)&&(br d||Nat.beq ie.size 1))&& !Nat.beq B B2)with
 |false=>rw[a]at h;exact h.elim
 |true=>rw[a]at h;simp only[C']at h;simp only[f',HR,IH,GL,HY,GO]at a;obtain⟨⟨⟨q1,rfl⟩,q2,q3⟩,⟨⟨q4,q5⟩,q6⟩,q7⟩:=a;split at h;rename_i t1 f;split at h;rename_i t2 b;split at h;rename_i t3 H;exact⟨F,_,h,Turns.groCell I l r (aW q7) q1 y g q6 q2 q3 q4 q5 f b H⟩;exact h.elim;exact h.elim;exact h.elim
 exact h.elim;exact⟨F,A,h,Turns.refl⟩;exact⟨F,A,h,Turns.refl⟩;exact⟨F,A,h,Turns.refl⟩;exact⟨F,A,h,Turns.refl⟩;exact⟨F,A,h,Turns.refl⟩
def nilK(E:Env)(l:List (NPos×TypeId×Nat)):T Value->AH->KF->Prop:=
 List.rec (motive:=λ_=>T Value->AH->KF->Prop) (λF A K=>K F A) (λx _ ih F A K=>y5 E x.1 x.2.1 x.2.2 F A (λF1 A1=>ih F1 A1 K)) l
theorem mL{E:Env}(a:E.Ok){A0:AH}{n:Nat}:∀ {l:List (NPos×TypeId×Nat)}{F:T Value}{A:AH}{K:KF},nilK E l F A K->∃ F1 A1,K F1 A1/\Turns E A0 n F A F1 A1
 | [],F,A,K,h=>⟨F,A,h,Turns.refl⟩
 |x::l,F,A,K,h=>by have h:y5 E x.1 x.2.1 x.2.2 F A (λF1 A1=>nilK E l F1 A1 K):=h;obtain⟨F1,A1,h,t1⟩:=y0 a (E:=E) (A0:=A0) (n:=n) h;obtain⟨b,f,h,t2⟩:=mL a (E:=E) (A0:=A0) (n:=n) h;exact⟨b,f,h,t1.trans t2⟩
abbrev _root_.Go.Hl:=@List.map_map
abbrev _root_.Go.Il:=@List.map_id
abbrev _root_.Go.Ha:=@List.map_congr_left
abbrev _root_.Go.Hk:=@Option.some.inj
abbrev _root_.Go.Im:=@List.mem_replicate
abbrev _root_.Go.GR:=@List.getElem?_map
abbrev _root_.Go.HA:=@List.length_replicate
def Sp(b:Bool)(p q:Prop):Prop:=Bool.rec (motive:=λ_=>Prop) q p b
theorem Sp.intro{b:Bool}{p q:Prop}(h:b=true->p)(k:b=false->q):Sp b p q:=by
 cases b with
 |true=>exact h rfl
 |false=>exact k rfl
theorem Sp.cases{b:Bool}{p q:Prop}(h:Sp b p q):(b=true/\p)∨(b=false/\q):=by
 cases b with
 |true=>exact .inl ⟨rfl,h⟩
 |false=>exact .inr ⟨rfl,h⟩
inductive Stop {α :Type}(x: α):Prop
theorem Stop.elim{a :Type}{x: a}{p:Prop}(h:Stop x):p:=nomatch h
inductive Leaf (p:Prop):Prop
 |mk (h:p):Leaf p
theorem Leaf.get{p:Prop}(h:Leaf p):p:=by cases h with|mk h=>exact h
def pc(p:Ll)(q:Prop):Prop:=match p with|none=>q|some p=>p/\q
def PH(p:Ll):Prop:=match p with|none=>True|some p=>p
theorem dh{q:Prop}(h:pc p q):PH p/\q:=by
 cases p with
 |none=>exact⟨trivial,h⟩
 |some p=>exact h
structure El where
 at':Nat->Nat->Lh->Int->Lj
 app:Bool
 gm:TypeId->Bool
 ml:TypeId->Lc->Value->Option (Value×Bool)
 mu:TypeId->Lc->Nat->Value->Value->Option (Lc×Nat)
 md:TypeId->Lc->Value->Option Lc
 fo:Lk->Option (Li×TypeId)
 hk:Lk->List (NPos×TypeId×Nat)
def El.of(f:Nat->Nat->Lh->Int->Lj):El:=⟨f,false,λ_=>false,λ_ _ _=>none,λ_ _ _ _ _=>none,λ_ _ _=>none,λ_=>none,λ_=>[]⟩
abbrev KV:=Value->AH->Prop
abbrev RunF:=Lh->AH->Option (Ll×Value×AH)
abbrev Tab:=List (FuncId×RunF)
abbrev Inl:=Func->Lh->AH->KV->Prop
def po:Tab->FuncId->Option RunF
 | [],_=>none
 |(g,x)::l,f=>bif Nat.beq f g then some x else po l f
def ua(l:Tab):bV:=λf args A=>match po l f with
 |some x=>(match x args A with|some (p,v,A')=>(open Classical in if PH p then some (v,A')else none)|none=>none)
 |none=>none
def CallAt(E:Env)(f:FuncId)(args:Lh)(A:AH)(v:Value)(A':AH):Prop:=∀ σ w args',Rel E.P σ A w->Glob E σ->VRs σ args args'->
 Calls E.P f ⟨args'⟩ w (λe w'=>∃ v' σ',e=.returned v'/\VR σ' v v'/\Rel E.P σ' A' w'/\Ext σ A w σ' A' w')
inductive TabOk (E:Env):Tab->Prop
 |nil:TabOk E []
 |cons {f:FuncId}{x:RunF}{l:Tab}(h:∀ args A p v A',x args A=some (p,v,A')->PH p->CallAt E f args A v A') (t:TabOk E l):TabOk E ((f,x)::l)
theorem TabOk.get:∀ {l:Tab},TabOk E l->∀ {f:FuncId}{x:RunF},po l f=some x->∀ args A p v A',x args A=some (p,v,A')->PH p->CallAt E f args A v A'
 |_,.nil,f,x,h=>by simp[po]at h
 | _,.cons (f:=g) h t,f,x,hx=>by
  simp only[po]at hx;cases e:Nat.beq f g with
  |true=>rw[e]at hx;simp only[C',osI]at hx;subst hx;obtain rfl:=Gy e;exact h
  |false=>rw[e]at hx;exact t.get hx
theorem zX{l:Tab}(h:TabOk E l):fp E (ua l):=by intro f g A v A' a σ w b R r u;unfold ua at a;split at a;rename_i x i;split at a;rename_i p y A0 j;split at a;rename_i q;cases a;exact h.get i g A p _ _ j q σ w b R r u;cases a;cases a;cases a
def bw(pre:Lh->Ll)(val:Lh->Lj):RunF:=λargs A=>match val args with|some v=>some (pre args,v,A)|none=>none
theorem ub{f:FuncId}{args:Lh}(h:Con E f (dw (one args v)))(A:AH):CallAt E f args A v A:=by intro σ w a R b g;exact h args A v A (by simp[dw,mD]) σ w a R b g
theorem qt(g:E.Ok)(a:GlOk E){f:FuncId}(b:E.fn f=some fn){args:Lh}(i:∀ x∈args,HF x)(h:Walk E fn args v)(A:AH):CallAt E f args A v A:=
 ub (qo g a b i h) A
theorem gF{f:FuncId}{b:Lh->Ll}{a:Lh->Lj}(h:∀ args v,a args=some v->PH (b args)->∀ A,CallAt E f args A v A):∀ args A p v A',bw b a args A=some (p,v,A')->PH p->CallAt E f args A v A':=by intro args A p v A' g j;unfold bw at g;split at g;rename_i u i;simp only[osI,GC]at g;obtain⟨rfl,rfl,rfl⟩:=g;exact h args u i j A;cases g
def aa(els:Lh)(i:Int):Int:=match nth els i.toNat with|some (.int _ n)=>n|_=>0
def aH(els:Lh)(i:Int):Bool:=match nth els i.toNat with|some (.bool b)=>b|_=>false
def yQ:Operand->Nat
 | .tmp t=>t
 |_=>0
def qd(E:Env)(A:AH)(ρ:Operand->Lj)(ty:TypeId)(op:Op):Option (Ll×Value):=match quiet E A ρ ty op with|some v=>some (none,v)|none=>none
def sxIdx(E:Env)(A:AH)(ρ:Operand->Lj)(ty:TypeId)(t:TypeId)(x i:Operand):Option (Ll×Value):=
 match ρ x with
 | some (.func (.yield sz) ⟨els⟩ ⟨[]⟩)=>(match ρ i,und E t with
   | some (.int _ n),some (.slice e)=>(match E.ti e with
     |some ie=>bif Nat.beq ie.size sz&&Nat.blt 0 sz then some (some (0<=n/\n<els.length),.func (.yield sz) ⟨els⟩ ⟨[.int .i64 n.toNat,.int .i64 (0:Nat)]⟩)else none
     |none=>none)
   |_,_=>none)
 | some (.slice (some ⟨B,o,none⟩) n m)=>(match isG m with
   | true=>(match ρ i,und E t with
     | some (.int _ k),some (.slice e)=>(match E.ti e with
       |some ie=>bif Nat.beq ie.size (gsz m)&&Nat.blt 0 (gsz m)then some (some (0<=k/\k<n),gPtr (gsz m) B (gIdx (gsz m) o k.toNat) 0)else none
       |none=>none)
     |_,_=>none)
   |false=>qd E A ρ ty (.indexAddr t x i))
 | some (.pointer (some ⟨B,0,none⟩))=>(match ρ i,und E t with
   | some (.int _ k),some (.array len el)=>(match E.ti el with
     |some ie=>bif Nat.beq ie.size 1&&Nat.ble 64 len then some (some (0<=k/\k<len),gPtr 1 B k.toNat 0)else qd E A ρ ty (.indexAddr t x i)
     |none=>none)
   |_,_=>qd E A ρ ty (.indexAddr t x i))
 |_=>qd E A ρ ty (.indexAddr t x i)
def Ap(E:Env)(el:El)(A:AH)(ρ:Operand->Lj)(ty:TypeId)(t:TypeId)(a:Operand):Option (Ll×Value):=
 match ρ a with
 | some (.func (.yield sz) ⟨els⟩ ⟨[.int .i64 i,.int .i64 j]⟩)=>(match el.at' sz (yQ a) els i with
   |some u=>(match ldat E t [u] 0 j.toNat with|some v=>some (some (nth els i.toNat=some u),v)|none=>none)
   |none=>qd E A ρ ty (.load t a))
 | some (.func (.yield sz) ⟨[.pointer (some ⟨B,0,none⟩)]⟩ ⟨[.int .i64 i,.int .i64 j,.bool true]⟩)=>(match A.t.get B with
   | some (.gro els tl e)=>(match E.ti e,el.at' sz (yQ a) (glue els tl) i with
     |some ie,some u=>bif Nat.beq ie.size sz then(match ldat E t [u] 0 j.toNat with|some v=>some (some (nth (glue els tl) i.toNat=some u),v)|none=>none)else none
     |_,_=>none)
   | some (.arr els rest n e)=>(match und E t,el.at' 1 (yQ a) els i with
     |some d,some u=>bif br d|| !(Nat.beq sz 1&&Nat.beq j.toNat 0)then none else some (some (nth els i.toNat=some u),u)
     |_,_=>none)
   |_=>qd E A ρ ty (.load t a))
 |_=>qd E A ρ ty (.load t a)
def NZ(b:Int):Prop:=b≠0
def yk(E:Env)(A:AH)(ρ:Operand->Lj)(ty:TypeId)(op:BinOp)(t:TypeId)(x y:Operand)(t2:TypeId)(f:IntKind->Int->Int->Int):Option (Ll×Value):=
 match ρ x with
 | some (.int k a)=>(match ρ y with
   |some (.int k' b)=>bif dm k k' then some (some (NZ b),.int k (f k a b))else none
   |_=>none)
 |_=>qd E A ρ ty (.binOp op t x y t2)
def subB(s:ByteArray)(a b:Int):ByteArray:=ao ((s.data.toList.drop a.toNat).take (b.toNat-a.toNat))
def Cg(E:Env)(ρ:Operand->Lj)(t:TypeId)(s:ByteArray)(lo hi mx:Option Operand):Option (Ll×Value):=
 match mx,und E t with
 | none,some .string=>(match lo,hi with
   |none,some h=>(match ρ h with|some (.int _ b)=>some (some (0<=b/\b<=s.size),.string (subB s 0 b))|_=>none)
   |some l,none=>(match ρ l with|some (.int _ a)=>some (some (0<=a/\a<=s.size),.string (subB s a s.size))|_=>none)
   |some l,some h=>(match ρ l,ρ h with|some (.int _ a),some (.int _ b)=>some (some (0<=a/\a<=b/\b<=s.size),.string (subB s a b))|_,_=>none)
   |none,none=>none)
 |_,_=>none
def sxSli (E:Env)(A:AH)(ρ:Operand->Lj)(ty:TypeId)(t:TypeId)(x:Operand)(lo hi mx:Option Operand):Option (Ll×Value):=
 match ρ x with
 | some (.func (.yield sz) ⟨els⟩ ⟨[]⟩)=>(match mx,lo,hi with
   | none,none,some h=>(match ρ h,und E t with
     | some (.int _ b),some (.slice e)=>(match E.ti e with
       |some ie=>bif Nat.beq ie.size sz then some (some (0<=b/\b<=els.length),.func (.yield sz) ⟨els.take b.toNat⟩ ⟨[]⟩)else none
       |none=>none)
     |_,_=>none)
   | none,some l,none=>(match ρ l,und E t with
     | some (.int _ a),some (.slice e)=>(match E.ti e with
       |some ie=>bif Nat.beq ie.size sz then some (some (0<=a/\a<=els.length),.func (.yield sz) ⟨els.drop a.toNat⟩ ⟨[]⟩)else none
       |none=>none)
     |_,_=>none)
   |_,_,_=>qd E A ρ ty (.slice t x lo hi mx))
 | some (.slice (some ⟨B,o,none⟩) n m)=>(match isG m with
   | true =>(match und E t with
     | some (.slice e)=>(match E.ti e with
       | some ie=>bif Nat.beq ie.size (gsz m)&&Nat.blt 0 (gsz m)then(match mx,lo,hi with
         |none,none,none=>some (none,.slice (some ⟨B,o,none⟩) n m)
         |none,none,some h=>(match ρ h with|some (.int _ b)=>some (some (0<=b/\b<=n),.slice (some ⟨B,o,none⟩) b.toNat m)|_=>none)
         |none,some l,none=>(match ρ l with|some (.int _ a)=>some (some (0<=a/\a<=n),.slice (some ⟨B,gOff (gsz m) o a.toNat,none⟩) (n-a.toNat) m)|_=>none)
         |some z,none,some h=>(match ρ h,ρ z with|some (.int _ b),some (.int _ q)=>some (some (0<=b/\b<=q/\q<=n),.slice (some ⟨B,o,none⟩) b.toNat m)|_,_=>none)
         |none,some l,some h=>(match ρ l,ρ h with|some (.int _ a),some (.int _ b)=>some (some (0<=a/\a<=b/\b<=n),.slice (some ⟨B,gOff (gsz m) o a.toNat,none⟩) (b.toNat-a.toNat) m)|_,_=>none)
         |_,_,_=>none)else none
       |none=>none)
     |_=>none)
   |false=>qd E A ρ ty (.slice t x lo hi mx))
 |some (.string s)=>Cg E ρ t s lo hi mx
 |_=>qd E A ρ ty (.slice t x lo hi mx)
def cx (E:Env)(t:TypeId)(es:Lc)(k:Value):Option (Value×Bool):=
 match und E t with
 | some (.map kt et)=>bif flat k&&e7 E es.isEmpty kt k then
  (match iK E kt k es with
  |some (some (_,v))=>some (v,true)
  | some none=>(match E.ti et with
    | some i=>(match i.zero with
      |some z=>bif flat z then some (z,false)else none
      |none=>none)
    |none=>none)
  |none=>none)else none
 |_=>none
def sxLk(E:Env)(el:El)(A:AH)(ρ:Operand->Lj)(ty:TypeId)(t:TypeId)(x i:Operand)(cok:Bool):Option (Ll×Value):=
 match ρ x with
 | some (.map (some B))=>(match A.t.get B,ρ i with
   | some (.map es _),some k=>(match el.ml t es k with
     |some r=>some (some (cx E t es k=some r),bif cok then .tuple ⟨[r.1,.bool r.2]⟩else r.1)
     |none=>qd E A ρ ty (.lookup t x i cok))
   |_,_=>none)
 |_=>qd E A ρ ty (.lookup t x i cok)
theorem minI(a b:Int):(if b<a then b else a)=min a b:=by rw[Int.min_def];split<;>split<;>omega
theorem maxI(a b:Int):(if b>a then b else a)=max a b:=by rw[Int.max_def];split<;>split<;>omega
theorem uX{c:Call}{k h:IntKind}{a b:Int}(f:c.callee=.builtin .min)(i:mapO ρ c.args.toList=some [.int k a,.int h b]):quiet E A ρ ty (.call c)=some (.int k (min a b)):=by
 have g:bj E A ρ ty (.call c)=some (.int k (min a b)):=by simp only[bj,f,jX,i];rw[<-minI a b];rfl
 unfold quiet;split;exact g;have:symQ E ρ (.call c)=none:=by simp[symQ,f]
 rw[this];exact g
theorem uY{c:Call}{k h:IntKind}{a b:Int}(f:c.callee=.builtin .max)(i:mapO ρ c.args.toList=some [.int k a,.int h b]):quiet E A ρ ty (.call c)=some (.int k (max a b)):=by
 have g:bj E A ρ ty (.call c)=some (.int k (max a b)):=by simp only[bj,f,jX,i];rw[<-maxI a b];rfl
 unfold quiet;split;exact g;have:symQ E ρ (.call c)=none:=by simp[symQ,f]
 rw[this];exact g
def sxBlt(E:Env)(A:AH)(ρ:Operand->Lj)(ty:TypeId)(c:Call):Option (Ll×Value):=
 match c.callee with
 | .builtin .min=>(match mapO ρ c.args.toList with
   |some [.int k a,.int _ b]=>some (none,.int k (min a b))
   |_=>qd E A ρ ty (.call c))
 | .builtin .max=>(match mapO ρ c.args.toList with
   |some [.int k a,.int _ b]=>some (none,.int k (max a b))
   |_=>qd E A ρ ty (.call c))
 | .builtin _=>qd E A ρ ty (.call c)
 |_=>none
def bP(s:ByteArray)(i:Int):Int:=match nth s.data.toList i.toNat with|some b=>(b.toNat:Int)|none=>0
def sxIx(E:Env)(A:AH)(ρ:Operand->Lj)(ty:TypeId)(t:TypeId)(x i:Operand):Option (Ll×Value):=
 match ρ x with
 | some (.string s)=>(match ρ i,und E t with
   |some (.int _ n),some .string=>some (some (0<=n/\n<s.size),.int .u8 (bP s n))
   |_,_=>none)
 |_=>qd E A ρ ty (.index t x i)
def u8L(c:Lh)(o n:Nat):List UInt8:=((c.drop o).take n).map λv=>match v with| .int _ k=>UInt8.ofNat k.toNat|_=>0
def IsB(c:Lh)(o n:Nat):Prop:=∃ bs:List UInt8,(c.drop o).take n=bs.map (λb=>Value.int .u8 b.toNat)/\bs.length=n
theorem lL:∀ a:List UInt8,kG (a.map λb=>Value.int .u8 b.toNat)=some a
 | []=>rfl
 |b::a=>by simp[kG,lL a]
theorem Ak(a:List UInt8):(a.map λb=>Value.int .u8 b.toNat).map (λv=>match v with| .int _ k=>UInt8.ofNat k.toNat|_=>0)=a:=by
 rw[Hl];conv=>rhs;rw[<-Il a]
 exact Ha λx _=>by simp
theorem v5(h:IsB c o n):∃ a:List UInt8,(c.drop o).take n=a.map (λb=>Value.int .u8 b.toNat)/\a.length=n/\u8L c o n=a:=by obtain⟨a,f,g⟩:=h;exact⟨a,f,g,by unfold u8L;rw[f];exact Ak a⟩
def sxCv(E:Env)(el:El)(A:AH)(ρ:Operand->Lj)(ty:TypeId)(s t:TypeId)(x:Operand):Option (Ll×Value):=
 match el.app,ρ x with
 | true,some (.slice (some ⟨B,o,none⟩) n k)=>(match isG k,und E s,und E t,A.t.get B with
   | false,some (.slice e),some .string,some (.cells c _)=>(match und E e with
     |some (.int .u8)=>some (some (IsB c o n),.string (ao (u8L c o n)))
     |_=>none)
   |true,_,_,_=>none
   |_,_,_,_=>qd E A ρ ty (.convert s t x))
 |_,_=>qd E A ρ ty (.convert s t x)
def sxAdd(E:Env)(A:AH)(ρ:Operand->Lj)(ty:TypeId)(t:TypeId)(x y:Operand)(t2:TypeId):Option (Ll×Value):=
 match ρ x with
 | some (.string a)=>(match ρ y with
   |some (.string b)=>some (some (a.data.toList.length+b.data.toList.length<=4611686018427387904),.string (ao (a.data.toList++b.data.toList)))
   |_=>none)
 |_=>qd E A ρ ty (.binOp .add t x y t2)
def sxQ(E:Env)(el:El)(A:AH)(ρ:Operand->Lj)(ty:TypeId)(op:Op):Option (Ll×Value):=
 match op with
 | .indexAddr t x i=>sxIdx E A ρ ty t x i
 | .load t a=>Ap E el A ρ ty t a
 | .slice t x lo hi mx=>sxSli E A ρ ty t x lo hi mx
 | .binOp op t x y t2=>(match op with
   | .quo=>yk E A ρ ty .quo t x y t2 (λk a b=>k.wrap (a.tdiv b))
   | .rem=>yk E A ρ ty .rem t x y t2 (λk a b=>a.tmod b)
   | .add=>sxAdd E A ρ ty t x y t2
   |op=>qd E A ρ ty (.binOp op t x y t2))
 | .call c=>sxBlt E A ρ ty c
 | .lookup t x i cok=>sxLk E el A ρ ty t x i cok
 | .index t x i=>sxIx E A ρ ty t x i
 | .convert s t x=>sxCv E el A ρ ty s t x
 |op=>qd E A ρ ty op
theorem cT(b:E.sym=true){a:Op}(f:symQ E ρ a=none)(h:groQ E A ρ a=some v):quiet E A ρ ty a=some v:=by unfold quiet;rw[b];simp only[f,h]
theorem eT(b:E.sym=true){a:Op}(i:symQ E ρ a=none)(g:groQ E A ρ a=none)(h:bj E A ρ ty a=some v)(f:arrQ E A ρ a=none:=by rfl):quiet E A ρ ty a=some v:=by unfold quiet;rw[b];simp only[i,g,f,h]
theorem n8(b:E.sym=true){a:Op}(g:symQ E ρ a=none)(f:groQ E A ρ a=none)(h:arrQ E A ρ a=some v):quiet E A ρ ty a=some v:=by unfold quiet;rw[b];simp only[g,f,h]
theorem zg{es:Lc}{cl:Nat}{k:Value}{r:Value×Bool}{f:Bool}(C:A.t.get B=some (.map es cl))(h:cx E t es k=some r):
 gi E A t (.map (some B)) k f=some (bif f then .tuple ⟨[r.1,.bool r.2]⟩else r.1):=by unfold cx at h;unfold gi;split at h;rename_i l D u;rw[u];cases b:(flat k&&e7 E es.isEmpty l k);rw[b]at h;simp at h;rw[b]at h;simp only[C']at h;simp only[f']at b;simp only[b.1,C',C,b.2];split at h;rename_i j v g;cases h;rw[g];rename_i g;rw[g];simp only;split at h;rename_i i y;rw[y];simp only;split at h;rename_i z q;rw[q];simp only;cases a:flat z;rw[a]at h;simp at h;rw[a]at h;simp only[C',osI]at h;subst h;rfl;cases h;cases h;cases h;cases h
theorem cU{a:Op}(h:qd E A ρ ty a=some (p,v)):quiet E A ρ ty a=some v:=by unfold qd at h;split at h;rename_i u b;simp only[osI,GC]at h;rw[b,h.2];cases h
theorem yy(f:E.sym=true){x i:Operand}{k:IntKind}{n:Int}(a:ρ x=some (.string s))(j:ρ i=some (.int k n))(b:und E t=some .string)(l:0<=n)(q:n<s.size):quiet E A ρ ty (.index t x i)=some (.int .u8 (bP s n)):=by
 refine eT f rfl rfl ?_;have h:n.toNat<s.data.toList.length:=by
  have:s.data.toList.length=s.size:=by simp
  omega
 have g:nth s.data.toList n.toNat=some s.data.toList[n.toNat]:=by rw[aN];exact E' h
 simp only[bj,a,j,lj,b,l,Ia,C',g,bP]
theorem yj(G:E.sym=true){x:Operand}{lo z y:Option Operand}(f:ρ x=some (.string s))(h:Cg E ρ t s lo z y=some (p,v))(l:PH p):quiet E A ρ ty (.slice t x lo z y)=some v:=by
 have u:Nat.ble s.size s.size=true:=by rw[GO];omega
 unfold Cg at h;split at h;rename_i j;refine eT G (by simp[symQ,f]) (by simp[groQ,f]) ?_;split at h;rename_i H;split at h;rename_i k b q;cases h;obtain⟨g,C⟩:0<=b/\b<=s.size:=l;have i:Nat.ble b.toNat s.size=true:=by rw[GO];omega
 have J:Nat.ble 0 b.toNat=true:=by rw[GO];omega
 simp[bj,f,optA,q,scal,sliA,j,bnds,db,g,u,i,J,subB];cases h;rename_i D;split at h;rename_i k a r;cases h;obtain⟨g,C⟩:0<=a/\a<=s.size:=l;have i:Nat.ble a.toNat s.size=true:=by rw[GO];omega
 simp[bj,f,optA,r,scal,sliA,j,bnds,db,g,u,i,subB];cases h;rename_i D H;split at h;rename_i M a L b r q;cases h;obtain⟨g,C,O⟩:0<=a/\a<=b/\b<=s.size:=l;have I:0<=b:=by omega
 have i:Nat.ble a.toNat b.toNat=true:=by rw[GO];omega
 have K:Nat.ble b.toNat s.size=true:=by rw[GO];omega
 simp[bj,f,optA,r,q,scal,sliA,j,bnds,db,g,I,u,i,K,subB];cases h;cases h;cases h
theorem uo(D:E.sym=true){el:El}{op:Op}(h:sxQ E el A ρ ty op=some (p,v))(z:PH p):quiet E A ρ ty op=some v:=by
 unfold sxQ at h;split at h;rename_i t x i;unfold sxIdx at h;split at h;rename_i sz els f;split at h;rename_i k n e M C;split at h;rename_i ie l;cases g:(Nat.beq ie.size sz&&Nat.blt 0 sz);rw[g]at h;cases h;rw[g]at h;simp only[C',osI,GC]at h;obtain⟨rfl,rfl⟩:=h;exact uZ D f M C l g z.1 z.2;cases h;cases h;rename_i B o n m f;split at h;rename_i O;split at h;rename_i kk k e M C;split at h;rename_i ie l;cases g:(Nat.beq ie.size (gsz m)&&Nat.blt 0 (gsz m));rw[g]at h;cases h;rw[g]at h;simp only[C',osI,GC]at h;obtain⟨rfl,rfl⟩:=h;obtain⟨H,J⟩:0<=k/\k<(n:Int):=z;refine cT D (by simp[symQ,f]) ?_;simp only[groQ,f,O,M,C,l,g,H,J,Ia,HU,C'];cases h;cases h;exact cU h;rename_i B f;split at h;rename_i kk k V el M C;split at h;rename_i ie l;cases g:(Nat.beq ie.size 1&&Nat.ble 64 V);rw[g]at h;exact cU h;rw[g]at h;simp only[C',osI,GC]at h;obtain⟨rfl,rfl⟩:=h;obtain⟨H,J⟩:0<=k/\k<(V:Int):=z;refine n8 D (by simp[symQ,f]) (by simp[groQ,f]) ?_;simp only[arrQ,f,M,C,l,g,H,J,Ia,HU,C'];cases h;exact cU h;exact cU h;rename_i t a;unfold Ap at h;split at h;rename_i sz els i j G;split at h;rename_i u C;split at h;rename_i v0 hv;cases h;exact tb D G z hv;cases h;exact cU h;rename_i sz B i j G;split at h;rename_i els tl e Q;split at h;rename_i ie u l C;cases g:Nat.beq ie.size sz;rw[g]at h;cases h;rw[g]at h;simp only[C']at h;split at h;rename_i v0 hv;cases h;have z:nth (glue els tl) i.toNat=some u:=z;refine cT D (by simp[symQ,G]) ?_;simp only[groQ,G,Q,l,g,C'];rw[<-hv];simp[ldat,z,nth];cases h;cases h;rename_i els a1 n e Q;split at h;rename_i d u C a4;cases g:br d|| !(Nat.beq sz 1&&Nat.beq j.toNat 0)with
 |true=>rw[g]at h;cases h
 |false=>rw[g]at h;simp only[GT,osI,GC]at h;obtain⟨rfl,rfl⟩:=h;have z:nth els i.toNat=some u:=z;refine n8 D (by simp[symQ,G]) (by simp[groQ,G,Q]) ?_;simp only[arrQ,G,Q,C,g,GT,z]
 cases h;exact cU h;exact cU h;rename_i t x lo M mx;unfold sxSli at h;split at h;rename_i sz els f;split at h;rename_i hh;split at h;rename_i k b e K C;split at h;rename_i ie l;cases g:Nat.beq ie.size sz;rw[g]at h;cases h;rw[g]at h;simp only[C',osI,GC]at h;obtain⟨rfl,rfl⟩:=h;obtain⟨H,J⟩:0<=b/\b<=els.length:=z;have U:b.toNat<=els.length:=by omega
 have I:Nat.ble b.toNat els.length=true:=by rw[GO];exact U
 have R:Nat.ble els.length els.length=true:=by rw[GO];omega
 have e3:Nat.ble 0 b.toNat=true:=by rw[GO];omega
 refine dJ D ?_;simp[symQ,f,optA,K,scal,C,bnds,db,H,I,R,e3,l,g];cases h;cases h;rename_i ll;split at h;rename_i k a e G C;split at h;rename_i ie l;cases g:Nat.beq ie.size sz;rw[g]at h;cases h;rw[g]at h;simp only[C',osI,GC]at h;obtain⟨rfl,rfl⟩:=h;obtain⟨H,J⟩:0<=a/\a<=els.length:=z;have U:a.toNat<=els.length:=by omega
 have I:Nat.ble a.toNat els.length=true:=by rw[GO];exact U
 have R:Nat.ble els.length els.length=true:=by rw[GO];omega
 refine dJ D ?_;simp[symQ,f,optA,G,scal,C,bnds,db,H,I,R,l,g];cases h;cases h;exact cU h;rename_i B o n m f;split at h;rename_i O;split at h;rename_i e C;split at h;rename_i ie l;cases g:(Nat.beq ie.size (gsz m)&&Nat.blt 0 (gsz m));rw[g]at h;cases h;rw[g]at h;simp only[C']at h;have Z:Nat.ble n n=true:=by rw[GO];omega
 split at h;cases h;refine cT D (by simp[symQ,f]) ?_;have e0:Nat.ble 0 n=true:=by rw[GO];omega
 simp[groQ,f,O,optA,C,bnds,db,Z,e0,l,g,m9];split at h;rename_i hh k b K;cases h;obtain⟨H,J⟩:0<=b/\b<=(n:Int):=z;have I:Nat.ble b.toNat n=true:=by rw[GO];omega
 have e3:Nat.ble 0 b.toNat=true:=by rw[GO];omega
 refine cT D (by simp[symQ,f]) ?_;simp[groQ,f,O,optA,K,scal,C,bnds,db,H,Z,I,e3,l,g,m9];cases h;split at h;rename_i ll k a G;cases h;obtain⟨H,J⟩:0<=a/\a<=(n:Int):=z;have I:Nat.ble a.toNat n=true:=by rw[GO];omega
 refine cT D (by simp[symQ,f]) ?_;simp[groQ,f,O,optA,G,scal,C,bnds,db,H,Z,I,l,g];cases h;split at h;rename_i zz hh k1 b k2 q K hq;cases h;obtain⟨H,J,U⟩:0<=b/\b<=q/\q<=(n:Int):=z;have Y:0<=q:=by omega
 have I:Nat.ble b.toNat q.toNat=true:=by rw[GO];omega
 have R:Nat.ble q.toNat n=true:=by rw[GO];omega
 have e3:Nat.ble 0 b.toNat=true:=by rw[GO];omega
 refine cT D (by simp[symQ,f]) ?_;simp[groQ,f,O,optA,K,hq,scal,C,bnds,db,H,Y,Z,I,R,e3,l,g,m9];cases h;split at h;rename_i ll hh k1 a k2 b G K;cases h;obtain⟨H,J,U⟩:0<=a/\a<=b/\b<=(n:Int):=z;have Y:0<=b:=by omega
 have I:Nat.ble a.toNat b.toNat=true:=by rw[GO];omega
 have R:Nat.ble b.toNat n=true:=by rw[GO];omega
 refine cT D (by simp[symQ,f]) ?_;simp[groQ,f,O,optA,G,K,scal,C,bnds,db,H,Y,Z,I,R,l,g];cases h;cases h;cases h;cases h;exact cU h;rename_i s f;exact yj D f h z;exact cU h;rename_i op t x y t2;split at h;unfold yk at h;split at h;rename_i k a f;split at h;rename_i S b X;cases L:dm k S;rw[L]at h;cases h;rw[L]at h;simp only[C',osI,GC]at h;obtain⟨rfl,rfl⟩:=h;have K:b≠0:=z;have e:k=S:=by simpa[dm]using L
 subst e;exact uW D f X (by simp[K]);cases h;exact cU h;unfold yk at h;split at h;rename_i k a f;split at h;rename_i S b X;cases L:dm k S;rw[L]at h;cases h;rw[L]at h;simp only[C',osI,GC]at h;obtain⟨rfl,rfl⟩:=h;have K:b≠0:=z;have e:k=S:=by simpa[dm]using L
 subst e;exact uV D f X (by simp[K]);cases h;exact cU h;unfold sxAdd at h;split at h;rename_i a f;split at h;rename_i b X;cases h;have z:a.data.toList.length+b.data.toList.length<=4611686018427387904:=z;refine eT D (by simp[symQ,f]) (by simp[groQ]) ?_;have I:Nat.ble (a.data.toList.length+b.data.toList.length) 4611686018427387904=true:=by rw[GO];exact z
 simp only[bj,f,X,binA,gr,strO,I,C'];cases h;exact cU h;exact cU h;rename_i c;unfold sxBlt at h;split at h;rename_i hc;split at h;rename_i k a S b G;cases h;exact uX hc G;exact cU h;rename_i hc;split at h;rename_i k a S b G;cases h;exact uY hc G;exact cU h;exact cU h;cases h;rename_i t x i a5;unfold sxLk at h;split at h;rename_i B f;split at h;rename_i es cl k Q L;split at h;rename_i r hr;cases h;have z:cx E t es k=some r:=z;refine eT D (by simp[symQ]) (by simp[groQ]) ?_;simp only[bj,f,L];exact zg Q z;exact cU h;cases h;exact cU h;rename_i t x i;unfold sxIx at h;split at h;rename_i s f;split at h;rename_i k n M C;cases h;obtain⟨H,J⟩:0<=n/\n<s.size:=z;exact yy D f M C H J;cases h;exact cU h;rename_i s t x;unfold sxCv at h;split at h;rename_i B o n k a2 f;split at h;rename_i e c R O a0 ht Q;split at h;rename_i he;cases h;obtain⟨bs,J,U,Y⟩:=v5 z;refine eT D (by simp[symQ,f]) (by simp[groQ]) ?_;rw[Y];simp only[bj,f,zT,a0,ht,he];cases hn:Nat.beq n 0 with
 |true=>have a3:=Gy hn;have:bs=[]:=Hb (by omega);rw[this];rfl
 | false=>
  have hl:gj A B o n=some (bs.map λb=>Value.int .u8 b.toNat):=by
   have I:Nat.beq (bs.map λb=>Value.int .u8 b.toNat).length n=true:=by rw[GL];simp[U]
   simp only[gj,look,Q,J,I,C']
  simp only[GT,hl,lL]
 cases h;cases h;exact cU h;exact cU h;exact cU h
def putK(n:Nat)(F:T Value)(dst:Option Tmp)(v:Value)(k:T Value->Prop):Prop:=match put n F dst v with|some F'=>k F'|none=>False
def setK(F:T Value)(d:Nat)(v:Value)(k:T Value->Prop):Prop:=match T.set FU F d v with|some F'=>k F'|none=>False
theorem me{k:T Value->Prop}(h:setK F d v k):∃ a,T.set FU F d v=some a/\k a:=by unfold setK at h;split at h;rename_i a b;exact⟨a,b,h⟩;exact h.elim
def sxG (ops:List Oper)(F:T Value)(o:Oper)(kT kF:T Value->Prop):Prop:=
 match o.guard with
 |none=>kT F
 | some (j,want)=>(match nth ops j with
   | some oj=>(match oj.dst with
     | some d=>(match slot F d with
       |some (.bool b)=>Sp b (setK F d (.bool true) (λF'=>Bool.rec (motive:=λ_=>Prop) (kF F') (kT F') want)) (setK F d (.bool false) (λF'=>Bool.rec (motive:=λ_=>Prop) (kT F') (kF F') want))
       |some _=>kF F
       |none=>False)
     |none=>kF F)
   |none=>kF F)
theorem Aq{ops:List Oper}{o:Oper}{C D:T Value->Prop}(h:sxG ops F o C D):(cw ops F o=some true/\C F)∨(cw ops F o=some false/\D F):=by
 unfold sxG at h;unfold cw;split at h;rename_i q;rw[q];exact .inl ⟨rfl,h⟩;rename_i j a q;rw[q];simp only;split at h;rename_i H l;rw[l];simp only;split at h;rename_i d hd;rw[hd];simp only;split at h;rename_i b f;rw[f];simp only;unfold slot at f;rcases h.cases with⟨r,z⟩|⟨r,z⟩;obtain⟨G,y,g⟩:=me z;rw[r]at f ⊢;rw[cC _ _ _ _ _ f y]at g;cases a with
 |true=>exact .inl ⟨rfl,g⟩
 |false=>exact .inr ⟨rfl,g⟩
 obtain⟨G,y,g⟩:=me z;rw[r]at f ⊢;rw[cC _ _ _ _ _ f y]at g;cases a with
 |true=>exact .inr ⟨rfl,g⟩
 |false=>exact .inl ⟨rfl,g⟩
 rename_i u i f;rw[f];refine .inr ⟨?_,h⟩;cases u<;>first|rfl|exact absurd rfl (i _)
 exact h.elim;rename_i hd;rw[hd];exact .inr ⟨rfl,h⟩;rename_i l;rw[l];exact .inr ⟨rfl,h⟩
def appS(E:Env)(A:AH)(ts:List TypeId)(B sl:Nat)(x:Value):Option (Ll×Value×AH):=bif E.sym then none else none
theorem Gi{a:Nat}(h:appS E A ts B a x=some (p,v,A'))(f:PH p):ez E A ts (.slice (some ⟨B,o,none⟩) a unk) x=some (v,A'):=by unfold appS at h;cases b:E.sym<;>rw[b]at h<;>cases h
def wB (E:Env)(el:El)(A:AH)(t:TypeId)(B sz:Nat)(i j:Int)(v:Value)(s:Nat):Option (Ll×Value×AH):=
 match E.ti t,A.t.get B with
 | some ti,some (.gro els0 tl e)=>(match E.ti e with
   | some ie=>bif (Nat.beq ie.size sz&&Nat.beq v.cells.toList.length ti.size)&&v.cells.toList.all cellv then
    (match Nat.beq v.cells.toList.length sz&&Nat.beq j.toNat 0 with
    |true=>(match T.set FU A.t B (.gro ((glue els0 tl).set i.toNat v) [] e)with|some t=>some (some (i.toNat<(glue els0 tl).length),undef,⟨t,A.next⟩)|none=>none)
    | false=>(match el.at' sz s (glue els0 tl) i with
      | some u=>bif Nat.ble (j.toNat+v.cells.toList.length) sz&& !Nat.beq v.cells.toList.length sz then
       (match T.set FU A.t B (.gro ((glue els0 tl).set i.toNat (.agg ⟨over u.cells.toList j.toNat v.cells.toList⟩)) [] e)with|some t=>some (some (nth (glue els0 tl) i.toNat=some u),undef,⟨t,A.next⟩)|none=>none)else none
      |none=>none))
    else none
   |none=>none)
 |_,_=>none
theorem wA{H:El}{i j:Int}{s:Nat}(h:wB E H A t B sz i j v s=some (p,v2,A'))(f:PH p):dX E A t B sz i.toNat j.toNat v=some A'/\v2=undef:=by
 unfold wB at h;unfold dX;split at h;rename_i C g tl e l G;rw[l,G];simp only;generalize glue g tl=els at h ⊢;split at h;rename_i ie r;rw[r];cases b:(Nat.beq ie.size sz&&Nat.beq v.cells.toList.length C.size)&&v.cells.toList.all cellv;rw[b]at h;simp at h;rw[b]at h;simp only[C']at h;simp only[f']at b;split at h;rename_i z;simp only[f',GL]at z;split at h;rename_i t2 q;cases h;have f:i.toNat<els.length:=f;have D:nth els i.toNat=some els[i.toNat]:=by rw[aN];exact E' f
 rw[D];have I:Nat.ble (j.toNat+v.cells.toList.length) sz=true:=by rw[GO];omega
 have y:nS els[i.toNat] v sz j.toNat=v:=by
  unfold nS;have:Nat.beq v.cells.toList.length sz=true:=by rw[GL];exact z.1
  rw[this];rfl
 simp only[b.1.1,b.1.2,b.2,I,y,q,HU,C',and_self];cases h;split at h;rename_i u J;cases a:(Nat.ble (j.toNat+v.cells.toList.length) sz&& !Nat.beq v.cells.toList.length sz);rw[a]at h;simp at h;rw[a]at h;simp only[C']at h;simp only[f',IH]at a;split at h;rename_i t2 q;cases h;have f:nth els i.toNat=some u:=f;rw[f];have y:nS u v sz j.toNat=.agg ⟨over u.cells.toList j.toNat v.cells.toList⟩:=by unfold nS;rw[a.2];rfl
 simp only[b.1.1,b.1.2,b.2,a.1,y,q,HU,C',and_self];cases h;cases h;cases h;cases h
def srcS(E:Env)(A:AH)(e:TypeId)(sz:Nat)(x:Value):Option (Ll×Lh):=
 match x with
 | .slice (some ⟨B,o,none⟩) n m=>(match isG m with
   | true=>(match A.t.get B with
     | some (.gro els tl e2)=>(match E.ti e2 with
       |some ie=>bif (Nat.beq ie.size sz&&Nat.beq (gsz m) sz)&&Nat.blt 0 sz then some (some (n+gLo sz o<=(glue els tl).length),((glue els tl).drop (gLo sz o)).take n)else none
       |none=>none)
     |_=>none)
   |false=>(match srcG E A e sz (.slice (some ⟨B,o,none⟩) n m)with|some l=>some (none,l)|none=>none))
 |x=>(match srcG E A e sz x with|some l=>some (none,l)|none=>none)
theorem Ct{l:Lh}(h:srcS E A e sz x=some (p,l))(b:PH p):srcG E A e sz x=some l:=by
 unfold srcS at h;split at h;rename_i B o n m;split at h;rename_i j;split at h;rename_i els tl u q;split at h;rename_i ie g;cases a:(Nat.beq ie.size sz&&Nat.beq (gsz m) sz)&&Nat.blt 0 sz;rw[a]at h;simp at h;rw[a]at h;simp only[C',osI,GC]at h;obtain⟨rfl,rfl⟩:=h;have b:n+gLo sz o<=(glue els tl).length:=b;simp only[f']at a;have r:Nat.ble (n+gLo sz o) (glue els tl).length=true:=by rw[GO];exact b
 simp only[srcG,j,q,g,a.1.1,a.1.2,a.2,r,HU,C'];cases h;cases h;split at h;rename_i i f;simp only[osI,GC]at h;rw[f,h.2];cases h;split at h;rename_i i f;simp only[osI,GC]at h;rw[f,h.2];cases h
def p4 (E : Env)(A:AH)(ts:List TypeId)(B o n m:Nat)(x:Value):Option (Ll×Value×AH):=
 match ts with
 | [t, tx] => (match und E t,und E tx with
   | some (.slice e),some dx=>(match E.ti e,A.t.get B with
     | some ie, some (.gro els tl eb)=>(match ie.zero,srcS E A e ie.size x with
       | some z,some s=>
         bif (cJ dx&&(Nat.beq z.cells.toList.length ie.size&&Nat.blt 0 ie.size))&&(Nat.beq eb e&&(Nat.beq (gsz m) ie.size&&isG m))then
             (match T.set FU A.t B .dead with
             | some t'=>(match T.set FU t' A.next (.gro (oT o (gLo ie.size o) (glue els tl)) s.2 e)with
               |some t''=>some (some (pc s.1 ((am s.2).all cellv=true/\n+gLo ie.size o=(glue els tl).length/\n+s.2.length<=70368744177664/\(n+s.2.length)*ie.bytes<=140737488355328)),.slice (some ⟨A.next,0,none⟩) (n+s.2.length) m,⟨t'',A.next+1⟩)
               |none=>none)
             |none=>none)
         else none
       |_,_=>none)
     |_,_=>none)
   |_,_=>none)
 |_=>none
theorem tK(h:p4 E A ts B o n m x=some (p,v,A'))(D:PH p):oH E A ts B o n m x=some (v,A'):=by
 unfold p4 at h;unfold oH;split at h;rename_i t S;simp only;split at h;rename_i e L y g;rw[y,g];simp only;split at h;rename_i ie b f H q G;rw[q,G];simp only;generalize glue b f=els at h ⊢;split at h;rename_i z s u C;rw[u];cases r:(cJ L&&(Nat.beq z.cells.toList.length ie.size&&Nat.blt 0 ie.size))&&(Nat.beq H e&&(Nat.beq (gsz m) ie.size&&isG m));rw[r]at h;simp at h;rw[r]at h;simp only[C']at h;split at h;rename_i t1 i;split at h;rename_i t2 a;cases h;obtain⟨j,R,Q,O,M⟩:=dh (show pc s.1 _ from D);rw[Ct (p:=s.1) (l:=s.2) C j];rw[sq]at a;have K:Nat.beq (n+gLo ie.size o) els.length=true:=by rw[GL];exact Q
 have J:Nat.ble (n+s.2.length) 70368744177664=true:=by rw[GO];exact O
 have I:Nat.ble ((n+s.2.length)*ie.bytes) 140737488355328=true:=by rw[GO];exact M
 simp only[r,R,K,J,I,i,a,HU,C'];cases h;cases h;cases h;cases h;cases h;cases h
def mZ(E:Env)(A:AH)(ts:List TypeId)(B o n m:Nat)(x:Value):Option (Ll×Value×AH):=bif E.sym then none else none
theorem p5(h:mZ E A ts B o n m x=some (p,v,A'))(b:PH p):m5 E A ts B o n m x=some (v,A'):=by unfold mZ at h;cases a:E.sym<;>rw[a]at h<;>cases h
def aU(E:Env)(t:TypeId)(es:Lc)(clock:Nat)(k v:Value):Option (Lc×Nat):=
 match und E t with
 | some (.map kt et)=>bif flat k&&e7 E false kt k then
  (match iK E kt k es with
  |some none=>some (es++[(k,v,clock)],clock+1)
  | some (some (i,_))=>(match nth es i with
    |some (key,_,born)=>bif Instr.sameBits 10000 key k then some (es.set i (k,v,born),clock)else none
    |none=>none)
  |none=>none)else none
 |_=>none
theorem tg{es f:Lc}{a c':Nat}{k:Value}(C:A.t.get B=some (.map es a))(h:aU E t es a k v=some (f,c')):gd E A t (.map (some B)) k v=setA A B (.map f c'):=by unfold aU at h;unfold gd;split at h;rename_i r G y;rw[y];cases l:(flat k&&e7 E false r k);rw[l]at h;simp at h;rw[l]at h;simp only[C']at h;simp only[C,l,C'];split at h;rename_i j;rw[j];cases h;rfl;rename_i i u j;rw[j];simp only;split at h;rename_i g D q z;rw[z];cases b:Instr.sameBits 10000 g k;rw[b]at h;simp at h;rw[b]at h;simp only[C',osI,GC]at h;obtain⟨rfl,rfl⟩:=h;simp only[b,C'];cases h;cases h;cases h
def y8(E:Env)(el:El)(A:AH)(t:TypeId)(B:Nat)(k v:Value):Option (Ll×Value×AH):=
 match A.t.get B with
 | some (.map es clock)=>(match el.mu t es clock k v with
   |some r=>(match setA A B (.map r.1 r.2)with|some A'=>some (some (aU E t es clock k v=some r),undef,A')|none=>none)
   |none=>none)
 |_=>none
theorem rq{j:El}{k:Value}(h:y8 E j A t B k v=some (p,v2,A'))(b:PH p):gd E A t (.map (some B)) k v=some A'/\v2=undef:=by unfold y8 at h;split at h;rename_i i a f;split at h;rename_i r l;split at h;rename_i q g;cases h;have b:aU E t i a k v=some (r.1,r.2):=b;rw[tg f b];exact⟨g,rfl⟩;cases h;cases h;cases h
def delE(E:Env)(t:TypeId)(es:Lc)(k:Value):Option Lc:=
 match und E t with
 | some (.map kt et)=>bif flat k then bif e7 E es.isEmpty kt k then(match iK E kt k es with
   |some none=>some es
   |some (some (i,_))=>some (es.eraseIdx i)
   |none=>none)else none else none
 |_=>none
def delS(E:Env)(el:El)(A:AH)(ts:List TypeId)(B:Nat)(k:Value):Option (Ll×Value×AH):=
 match ts with
 | t ::_=>(match A.t.get B with
   | some (.map es clock)=>(match el.md t es k with
     |some es2=>(match setA A B (.map es2 clock)with|some A'=>some (some (delE E t es k=some es2),undef,A')|none=>none)
     |none=>none)
   |_=>none)
 |_=>none
theorem FC{G:El}{k:Value}(h:delS E G A ts B k=some (p,v2,A'))(a:PH p):delA E A ts (.map (some B)) k=some A'/\v2=undef:=by unfold delS at h;split at h;rename_i t y;split at h;rename_i r g D;split at h;rename_i f H;split at h;rename_i J q;cases h;have a:delE E t r k=some f:=a;refine⟨?_,rfl⟩;unfold delE at a;unfold delA;simp only;split at a;rename_i z I C;rw[C];simp only;cases l:flat k;rw[l]at a;cases a;rw[l]at a;simp only[C']at a ⊢;rw[D];simp only;cases j:e7 E r.isEmpty z k;rw[j]at a;cases a;rw[j]at a;simp only[C']at a ⊢;split at a;rename_i b;rw[b];cases a;exact q;rename_i i u b;rw[b];cases a;exact q;cases a;cases a;cases h;cases h;cases h;cases h
def wF(E:Env)(A:AH)(ts:List TypeId)(B o n m B2 o2 n2 m2:Nat):Option (Ll×Value×AH):=bif E.sym then none else none
theorem wD{o2 a b:Nat}(h:wF E A ts B o n m B2 o2 a b=some (p,v,A'))(g:PH p):mY E A ts B o n m B2 o2 a b=some (v,A'):=by unfold wF at h;cases f:E.sym<;>rw[f]at h<;>cases h
def sxUs(E:Env)(A:AH)(ats:List TypeId)(p n:Value):Option (Ll×Value×AH):=bif E.sym then none else none
theorem Cf{a:List TypeId}{p n:Value}{q:Ll}(h:sxUs E A a p n=some (q,v,A'))(f:PH q):yc E A a p n=some (v,A'):=by unfold sxUs at h;cases b:E.sym<;>rw[b]at h<;>cases h
def xO(E:Env)(A:AH)(t:TypeId)(B sz:Nat)(i j:Int)(v:Value):Option (Ll×Value×AH):=
 match A.t.get B with
 | some (.arr els rest n e)=>(match E.ti t,v.cells.toList with
   | some ti,[x]=>bif (Nat.beq sz 1&&Nat.beq j.toNat 0)&&(Nat.beq ti.size 1&&cellv x)then
    (match T.set FU A.t B (.arr (els.set i.toNat x) rest n e)with|some t=>some (some (i.toNat<n),undef,⟨t,A.next⟩)|none=>none)else none
   |_,_=>none)
 |_=>none
theorem xN{i j:Int}(h:xO E A t B sz i j v=some (p,v2,A'))(f:PH p):
 iQ E A t (.func (.yield sz) ⟨[.pointer (some ⟨B,0,none⟩)]⟩ ⟨[.int .i64 i,.int .i64 j,.bool true]⟩) v=some A'/\v2=undef:=by
 unfold xO at h;split at h;rename_i els g n e l;have y:jL E A t (.func (.yield sz) ⟨[.pointer (some ⟨B,0,none⟩)]⟩ ⟨[.int .i64 i,.int .i64 j,.bool true]⟩) v=none:=by show dX E A t B sz i.toNat j.toNat v=none;unfold dX;rw[l];cases E.ti t<;>rfl
 unfold iQ;rw[y];simp only[jx,l];split at h;rename_i q x b r;rw[b,r];simp only;cases a:(Nat.beq sz 1&&Nat.beq j.toNat 0)&&(Nat.beq q.size 1&&cellv x);rw[a]at h;simp at h;rw[a]at h;simp only[C']at h;simp only[f']at a;split at h;rename_i t2 u;cases h;have f:i.toNat<n:=f;have z:Nat.blt i.toNat n=true:=by rw[HY];exact f
 simp only[a.1.1,a.1.2,a.2.1,a.2.2,z,HU,C',u,and_self];cases h;cases h;cases h
def isArr(A:AH)(B:Nat):Bool:=match A.t.get B with|some (.arr ..)=>true|_=>false
def sxG1 (E:Env)(el:El)(A:AH)(ρ:Operand->Lj)(op:Op):Option (Ll×Value×AH):=
 match op with
 | .store t a x=>(match ρ a,ρ x with
   | some (.func (.yield sz) ⟨[.pointer (some ⟨B,0,none⟩)]⟩ ⟨[.int .i64 i,.int .i64 j,.bool true]⟩),some v=>(match isArr A B with
     |true=>xO E A t B sz i j v
     |false=>wB E el A t B sz i j v (yQ a))
   |_,_=>none)
 | .mapUpdate t m k x=>(match ρ m,ρ k,ρ x with|some (.map (some B)),some k,some v=>y8 E el A t B k v|_,_,_=>none)
 | .insert t m k x=>(match ρ m,ρ k,ρ x with|some (.map (some B)),some k,some v=>y8 E el A t B k v|_,_,_=>none)
 | .call c=>(match c.callee with
   | .builtin .append=>(match c.args.toList with
     | [x,y]=>(match ρ x,ρ y with
       | some (.slice (some ⟨B,o,none⟩) sl sk),some src=>(match isG sk with
         |true=>bif CO B src then mZ E A c.argTypes.toList B o sl sk src else p4 E A c.argTypes.toList B o sl sk src
         |false=>bif el.app&&Nat.beq sk unk then appS E A c.argTypes.toList B sl src else none)
       |_,_=>none)
     |_=>none)
   | .builtin .copy=>(match c.args.toList with
     | [x,y]=>(match ρ x,ρ y with
       | some (.slice (some ⟨B,o,none⟩) n m),some (.slice (some ⟨B2,o2,none⟩) n2 m2)=>(match isG m with
         |true=>wF E A c.argTypes.toList B o n m B2 o2 n2 m2
         |false=>none)
       |_,_=>none)
     |_=>none)
   | .builtin .unsafeString=>(match el.app,c.args.toList with
     | true,[x,y]=>(match ρ x,ρ y with
       |some p,some n=>sxUs E A c.argTypes.toList p n
       |_,_=>none)
     |_,_=>none)
   | .builtin .delete=>(match c.args.toList with
     | [x,y]=>(match ρ x,ρ y with
       |some (.map (some B)),some k=>delS E el A c.argTypes.toList B k
       |_,_=>none)
     |_=>none)
   |_=>none)
 |_=>none
theorem ur{M:El}{I:Op}(h:sxG1 E M A ρ I=some (p,v,A'))(g:PH p):effA E A ρ I=some (v,A'):=by
 unfold sxG1 at h;split at h;rename_i t a x;split at h;rename_i sz B i j H L f;split at h;obtain⟨l,rfl⟩:=xN h g;simp only[effA,L,f,l];obtain⟨l,rfl⟩:=wA h g;simp only[effA,L,f,iQ,jL,l];cases h;rename_i t m k x;split at h;rename_i B J H G q f;obtain⟨l,rfl⟩:=rq h g;simp only[effA,G,q,f,l];cases h;rename_i t m k x;split at h;rename_i B J H G q f;obtain⟨l,rfl⟩:=rq h g;simp only[effA,G,q,f,l];cases h;rename_i c;split at h;rename_i u;split at h;rename_i x y b;split at h;rename_i B o sl O D f r;simp only[effA,u,effB,b,f,r];split at h;rename_i C;simp only[fi,C];cases z:CO B D with
 |true=>rw[z,C']at h;exact p5 h g
 |false=>rw[z]at h;exact tK h g
 rename_i C;simp only[fi,C];cases q:(M.app&&Nat.beq O unk);rw[q]at h;simp at h;rw[q]at h;simp only[f']at q;obtain rfl:=Gy q.2;simp only[C']at h;exact Gi h g;cases h;cases h;rename_i u;split at h;rename_i x y b;split at h;rename_i B o n m B2 R S V f r;simp only[effA,u,effB,b,f,r];split at h;rename_i C;simp only[nj,C];exact wD h g;cases h;cases h;cases h;rename_i u;split at h;rename_i x y K b;split at h;rename_i Q U f r;simp only[effA,u,effB,b,f,r];exact Cf h g;cases h;cases h;rename_i u;split at h;rename_i x y b;split at h;rename_i B J f r;obtain⟨l,rfl⟩:=FC h g;simp only[effA,u,effB,b,f,r,l];cases h;cases h;cases h;cases h
def frzV(E:Env)(A:AH)(B2 n k:Nat):Option (Ll×Value):=
 match A.t.get B2 with
 | some (.cells c2 e2)=>(match E.ti e2,und E e2 with
   | some i2,some d2=>bif (Nat.blt k unk&&(Nat.ble n k&&Nat.beq (c2.take (n*i2.size)).length (n*i2.size)))&&((c2.take (n*i2.size)).all cellv&&(br d2||Nat.beq i2.size 1))then
    some (none,.func (.yield i2.size) ⟨eI (br d2) i2.size n (c2.take (n*i2.size))⟩ ⟨[]⟩)else none
   |_,_=>none)
 | some (.gro els tl e2)=>(match E.ti e2 with
   |some i2=>bif isG k&&Nat.beq i2.size (gsz k)then some (some ((glue els tl).length=n),.func (.yield (gsz k)) ⟨glue els tl⟩ ⟨[]⟩)else none
   |none=>none)
 |_=>none
theorem E2(y:E.Ok)(R:Rel E.P σ A w)(h:frzV E A B2 n k=some (p,v))(i:PH p)(f:T.set FU A.t B2 .dead=some t1):
 ∃σ',Rel E.P σ' ⟨t1,A.next⟩ w/\Ext σ A w σ' ⟨t1,A.next⟩ w/\∀ v',VR σ' (.slice (some ⟨B2,0,none⟩) n k) v'->VR σ' v v':=by
 unfold frzV at h;split at h;rename_i l C j;split at h;rename_i b D g z;cases a:(Nat.blt k unk&&(Nat.ble n k&&Nat.beq (l.take (n*b.size)).length (n*b.size)))&&((l.take (n*b.size)).all cellv&&(br D||Nat.beq b.size 1))with
 |false=>rw[a]at h;simp at h
 |true=>rw[a]at h;simp only[C',osI,GC]at h;obtain⟨rfl,rfl⟩:=h;simp only[f',HR,GO,GL,HY]at a;obtain⟨⟨J,I,b2⟩,H,G⟩:=a;obtain⟨u,r,q⟩:=g9 G n _ b2 H;exact E3 R j J I q r u (by simp at b2;omega) f
 cases h;rename_i els tl C j;split at h;rename_i b g;cases a:(isG k&&Nat.beq b.size (gsz k));rw[a]at h;simp at h;rw[a]at h;simp only[C',osI,GC]at h;obtain⟨rfl,rfl⟩:=h;simp only[f',GL]at a;have i:(glue els tl).length=n:=i;rw[cb]at i ⊢;exact wM R j a.1 (by simp[Program.cellsOf,y.ti _ _ g,a.2]) i f;cases h;cases h
def wS:Lh->Nat->Option (Nat×Nat×Nat×Nat)
 | [],_=>none
 | v::l,j=>match v with
   | .slice (some ⟨B,0,none⟩) n k=>some (j,B,n,k)
   |_=>wS l (j+1)
theorem rY:∀ {l:Lh}{i j B n k:Nat},wS l i=some (j,B,n,k)->∃ m,j=i+m/\l[m]? =some (.slice (some ⟨B,0,none⟩) n k)
 | [],i,j,B,n,k,h=>by simp[wS]at h
 |v::l,i,j,B,n,k,h=>by unfold wS at h;split at h;cases h;exact⟨0,rfl,rfl⟩;obtain⟨m,b,a⟩:=rY h;exact⟨m+1,by omega,by simpa using a⟩
def frzT (E:Env)(B:Nat):Nat->AH->(AH->Prop)->Prop
 |0,A,K=>K A
 | m + 1, A,K=>match A.t.get B with
   | some (.gro els tl e)=>(match wS (am tl) 0 with
     | some r=>(match frzV E A r.2.1 r.2.2.1 r.2.2.2,T.set FU A.t r.2.1 .dead,E.ti e,und E e with
       | some q,some t1,some ie,some d=>bif Nat.beq B r.2.1|| !(((((am tl).set r.1 q.2).all cellv)&&Nat.beq ((am tl).set r.1 q.2).length (tl.length*ie.size))&&(br d||Nat.beq ie.size 1))then False else
         (match T.set FU t1 B (.gro els (eI (br d) ie.size tl.length ((am tl).set r.1 q.2)) e)with
         |some t2=>pc q.1 (frzT E B m ⟨t2,A.next⟩ K)
         |none=>False)
       |_,_,_,_=>False)
     |none=>K A)
   |_=>K A
theorem wI{E:Env}(u:E.Ok){B:Nat}:∀ {m:Nat}{A:AH}{K:AH->Prop},frzT E B m A K->∃ A',K A'/\∀ (σ:Sig) (w:World),Rel E.P σ A w->∃ σ',Rel E.P σ' A' w/\Ext σ A w σ' A' w
 |0,A,K,h=>⟨A,h,fun σ w R=>⟨σ,R,Ext.refl _ _ _⟩⟩
 | m+1,A,K,h=>by
  unfold frzT at h;split at h;rename_i els tl e X;split at h;rename_i r Q;split at h;rename_i q t1 ie d S b z hd;cases f:(Nat.beq B r.2.1|| !(((((am tl).set r.1 q.2).all cellv)&&Nat.beq ((am tl).set r.1 q.2).length (tl.length*ie.size))&&(br d||Nat.beq ie.size 1)))with
  |true=>rw[f]at h;exact h.elim
  | false=>
   rw[f]at h;simp only[GT]at h;simp only[H4,IX,f',HR,GL]at f;obtain⟨a,⟨c1,Z⟩,Y⟩:=f;have a:=aW a;split at h;rename_i t2 y;obtain⟨U,h⟩:=dh h;obtain⟨A',V,G⟩:=wI u h;refine⟨A',V,fun σ w R=>?_⟩;obtain⟨l,R1,X1,O⟩:=E2 u R (p:=q.1) (v:=q.2) S U b;obtain⟨mm,I,H⟩:=rY (i:=0) (j:=r.1) (B:=r.2.1) (n:=r.2.2.1) (k:=r.2.2.2) Q;obtain⟨M,L,J⟩:=g9 Y tl.length _ Z c1;have C:E.P.cellsOf e=ie.size:=by simp[Program.cellsOf,u.ti _ _ z]
   have D:(⟨t1,A.next⟩:AH).t.get B=some (.gro els tl e):=by show t1.get B=_;rw[Hp b,D' a];exact X
   obtain⟨R2,X2⟩:=sZ R1 D (p:=r.1) (by rw[I,H8];exact H) O M (by rw[C];exact L) J y;obtain⟨g,R3,X3⟩:=G l w R2;exact⟨g,R3,X1.trans (X2.trans X3)⟩;exact h.elim
  exact h.elim;exact⟨A,h,fun σ w R=>⟨σ,R,Ext.refl _ _ _⟩⟩;exact⟨A,h,fun σ w R=>⟨σ,R,Ext.refl _ _ _⟩⟩
def Ar(tab:Tab)(inl:Inl)(E:Env)(A:AH)(g:FuncId)(args:Lh)(K:KV):Prop:=
 match E.fn g with
 | some fn=>(match po tab g with
   |some x=>(match x args A with|some r=>pc r.1 (K r.2.1 r.2.2)|none=>Stop (g,args))
   |none=>inl fn args A K)
 | none=>(match E.ext g with
   |some x=>(match x args A with|some r=>K r.1 r.2|none=>Stop (g,args))
   |none=>Stop (g,args))
def uu(tab:Tab)(inl:Inl)(E:Env)(A:AH)(ρ:Operand->Lj)(op:Op)(K:KV):Prop:=
 match effA E A ρ op with
 |some r=>K r.1 r.2
 | none=>(match i6 E ρ op with
   |some r=>Ar tab inl E A r.1 r.2 K
   |none=>Stop (op,A))
def appT (E : Env)(A:AH)(ts:List TypeId)(b:Value)(s:ByteArray):Option (Ll×Value×AH):=
 match ts with
 | [t, tx] => (match und E t,und E tx with
   | some (.slice e),some .string=>(match E.ti e with
     | some ie=>(match ie.zero with
       | some z=>bif Nat.beq ie.size 1&&Nat.beq z.cells.toList.length 1 then
        (match b with
        | .slice none sl sk=>bif Nat.beq sl 0&&Nat.beq sk 0 then
         (match cK A (.cells (s.data.toList.map λb=>.int .u8 b.toNat) e)with
         |some A'=>some (some (s.size<=70368744177664/\s.size*ie.bytes<=140737488355328),.slice (some ⟨A.next,0,none⟩) s.size unk,A')
         |none=>none)else none
        | .slice (some ⟨B,o,none⟩) sl sk=>bif Nat.beq sk unk then
         (match A.t.get B with
         | some (.cells c eb)=>bif Nat.beq eb e then
           (match T.set FU A.t B .dead with
           | some t'=>(match T.set FU t' A.next (.cells (c.take (sl*ie.size)++s.data.toList.map λb=>.int .u8 b.toNat) e)with
             |some t''=>some (some (sl+s.size<=70368744177664/\(sl+s.size)*ie.bytes<=140737488355328/\sl*ie.size<=c.length),.slice (some ⟨A.next,0,none⟩) (sl+s.size) unk,⟨t'',A.next+1⟩)
             |none=>none)
           |none=>none)else none
         |_=>none)else none
        |_=>none)else none
       |none=>none)
     |none=>none)
   |_,_=>none)
 |_=>none
theorem Gh{b:Value}(h:appT E A ts b s=some (p,v,A')):
    (Nat.beq s.size 0=true->fi E A ts b (.string s)=some (b,A))/\(Nat.beq s.size 0=false->PH p->fi E A ts b (.string s)=some (v,A')):=by
  unfold appT at h;split at h;rename_i t tx;split at h;rename_i e y u;split at h;rename_i ie f;split at h;rename_i z r;cases C:Nat.beq ie.size 1&&Nat.beq z.cells.toList.length 1;rw[C]at h;cases h;rw[C]at h;simp only[C']at h;simp only[f']at C;obtain⟨i,R⟩:=C;have q:Nat.beq z.cells.toList.length ie.size=true:=by rw[GL]at i R ⊢;omega
  have l:Nat.blt 0 ie.size=true:=by rw[GL]at i;rw[HY];omega
  have j:cJ .string=true:=rfl;split at h;rename_i sl D;cases a:Nat.beq sl 0&&Nat.beq D 0;rw[a]at h;cases h;rw[a]at h;simp only[C']at h;split at h;rename_i A1 U;cases h;refine⟨λg=>?_,λg I=>?_⟩;simp only[fi,ez,y,u,f,r,srcA,i,q,l,j,a,g,HU,C'];obtain⟨L,K⟩:s.size<=70368744177664/\s.size*ie.bytes<=140737488355328:=I;have O:Nat.ble s.size 70368744177664=true:=by rw[GO];exact L
  have M:Nat.ble (s.size*ie.bytes) 140737488355328=true:=by rw[GO];exact K
  simp only[fi,ez,y,u,f,r,srcA,i,q,l,j,a,g,O,M,U,HU,C',GT];cases h;rename_i B o sl D;cases a:Nat.beq D unk;rw[a]at h;cases h;rw[a]at h;obtain rfl:=Gy a;simp only[C']at h;have Q:isG unk=false:=by decide
  split at h;rename_i c X S;cases J:Nat.beq X e;rw[J]at h;cases h;rw[J]at h;simp only[C']at h;split at h;rename_i t1 H;split at h;rename_i t2 G;cases h;have e3:Nat.ble unk unk=true:=by decide
  have Z:Nat.blt unk unk=false:=by decide
  refine⟨λg=>?_,λg I=>?_⟩;simp only[fi,Q,ez,y,u,f,r,srcA,i,q,l,j,g,e3,HU,Bool.true_or,C'];obtain⟨L,K,V⟩:sl+s.size<=70368744177664/\(sl+s.size)*ie.bytes<=140737488355328/\sl*ie.size<=c.length:=I;have O:Nat.ble (sl+s.size) 70368744177664=true:=by rw[GO];exact L
  have M:Nat.ble ((sl+s.size)*ie.bytes) 140737488355328=true:=by rw[GO];exact K
  have Y:Nat.ble (sl*ie.size) c.length=true:=by rw[GO];exact V
  simp only[fi,Q,ez,y,u,f,r,srcA,i,q,l,j,g,O,M,Z,Y,a,S,J,H,G,HU,C',GT];cases h;cases h;cases h;cases h;cases h;cases h;cases h;cases h
def sxT (E:Env)(el:El)(A:AH)(ρ:Operand->Lj)(op:Op):Option (ByteArray×Value×(Ll×Value×AH)):=
 match op with
 | .call c=>(match c.callee with
   | .builtin .append=>(match el.app,c.args.toList with
     | true,[x,y]=>(match ρ x,ρ y with
       |some b,some (.string s)=>(match appT E A c.argTypes.toList b s with|some r=>some (s,b,r)|none=>none)
       |_,_=>none)
     |_,_=>none)
   |_=>none)
 |_=>none
theorem sxT_ok{z:El}{g:Op}{b:Value}{r:Ll×Value×AH}(h:sxT E z A ρ g=some (s,b,r)):
 (Nat.beq s.size 0=true->effA E A ρ g=some (b,A))/\(Nat.beq s.size 0=false->PH r.1->effA E A ρ g=some (r.2.1,r.2.2)):=by unfold sxT at h;split at h;rename_i c;split at h;rename_i u;split at h;rename_i x y i a;split at h;rename_i D C l j;split at h;rename_i f q;simp only[osI,GC]at h;obtain⟨rfl,rfl,rfl⟩:=h;have:=Gh (p:=f.1) (v:=f.2.1) (A':=f.2.2) q;simp only[effA,u,effB,a,l,j];exact this;cases h;cases h;cases h;cases h;cases h
def sxEff(tab:Tab)(inl:Inl)(E:Env)(el:El)(A:AH)(ρ:Operand->Lj)(op:Op)(K:KV):Prop:=
 match sxT E el A ρ op with
 |some r=>Sp (Nat.beq r.1.size 0) (K r.2.1 A) (pc r.2.2.1 (K r.2.2.2.1 r.2.2.2.2))
 | none=>(match sxG1 E el A ρ op with
   |some r=>pc r.1 (K r.2.1 r.2.2)
   |none=>uu tab inl E A ρ op K)
def sxMk (E:Env)(el:El)(A:AH)(ρ:Operand->Lj)(op:Op):Option (Ll×Value×AH):=
 match op with
 | .makeSlice t l c=>(match und E t with
   | some (.slice e)=>(match el.gm e with
     | true=>(match ρ l,ρ c,E.ti e with
       | some (.int _ l),some (.int _ c),some ie=>(match ie.zero with
         | some z=>bif z.cells.toList.all scal&&(Nat.beq z.cells.toList.length ie.size&&Nat.blt 0 ie.size)then
          (match T.set FU A.t A.next (.gro (List.replicate l.toNat z) [] e)with
          |some t=>some (some (0<=l/\l<=c/\c<=281474976710656/\ie.bytes*c.toNat<=281474976710656),.slice (some ⟨A.next,0,none⟩) l.toNat (unk+3+ie.size),⟨t,A.next+1⟩)
          |none=>none)else none
         |none=>none)
       |_,_,_=>none)
     |false=>none)
   |_=>none)
 |_=>none
theorem eG(z:Value):∀ n:Nat,am (List.replicate n z)=rep z.cells.toList n
 |0=>rfl
 |n+1=>by rw[Ix,aV,eG z n];rfl
theorem Ck(ok:E.Ok){el:El}(R:Rel E.P σ A w){o:Oper}{a:Act}(L:OpR σ ρ a.eval)(h:sxMk E el A ρ o.op=some (p,v,A'))(hp:PH p):Does E σ A w o a v A':=by
 unfold sxMk at h;split at h;rename_i t l c Q;split at h;rename_i e hu;split at h;split at h;rename_i k1 l0 k2 b ie hl hc D;split at h;rename_i z hz;cases q:(z.cells.toList.all scal&&(Nat.beq z.cells.toList.length ie.size&&Nat.blt 0 ie.size));rw[q]at h;simp at h;rw[q]at h;simp only[C']at h;split at h;rename_i t2 ht;cases h;obtain⟨q1,q2,q3,Z⟩:0<=l0/\l0<=b/\b<=281474976710656/\ie.bytes*b.toNat<=281474976710656:=hp;simp only[f']at q;have e4:Nat.ble (ie.bytes*b.toNat) 281474976710656=true:=by rw[GO];exact Z
 have I:bX E ρ o.op=some (.cells (rep z.cells.toList b.toNat) e,λid=>.slice (some ⟨id,0,none⟩) l0.toNat b.toNat):=by rw[Q];simp only[bX,hu,hl,hc,D,hz,q.1,q.2.1,q.2.2,q1,q2,q3,e4,Ia,HU,C']
 obtain⟨a2,J,h1,h2,h3,h4⟩:=nA ok L I;have G:σ A.next=none:=R.fresh _ (GK _)
 have C:=ch (x:=(w.heap.size,0,b.toNat)) G;obtain⟨Y,lo,hi,g1,g2,X,g4,g5⟩:=h2 _ C;obtain rfl:=Hk g1;have K:=h3 (upd σ A.next (w.heap.size,0,b.toNat)) A.next w.heap.size b.toNat bF
 have g:=h1 w;have hy:J w.heap.size=.slice (some ⟨w.heap.size,0,none⟩) l0.toNat b.toNat:=by
  have S:b.toNat<unk:=by unfold unk;omega
  clear g h1 h3 g1 g2 X g4 g5 h2 I Z e4;generalize l0.toNat=ln at K ⊢;generalize b.toNat=cn at K S ⊢;generalize J w.heap.size=y at K ⊢;cases K with
  | slice _ _ _ j _=>
   have j:upd σ A.next (w.heap.size,0,cn) A.next=_:=j
   rw[bF]at j;cases j;rfl
  |sliceU _ _ _=>omega
  |sliceV _ _ _ _ _=>omega
  |sliceE=>omega
  |gs0 _ _ _ _ hm=>omega
  |gs _ _ _ _ _ _ _ _ _ hm=>omega
 rw[hy]at g;have f:z.cells.toList.length=ie.size:=Gy q.2.1;have H:E.P.cellsOf e=ie.size:=by simp[Program.cellsOf,ok.ti _ _ D]
 have M:∀ x∈List.replicate l0.toNat z,x.cells.size=E.P.cellsOf e:=λx hx=>by rw[H,(Im.1 hx).2];simpa using f
 have O:=dI z.cells.toList b.toNat;rw[f]at O;have a1:b.toNat*ie.size<=Y.size:=by by_cases h0:b.toNat*ie.size=0;omega;obtain⟨u,k1,_⟩:=X (b.toNat*ie.size-1) _ (E' (by omega));have:=(IP.1 k1).1;omega
 have a3:l0.toNat*ie.size<=b.toNat*ie.size:=Hr _ (by omega);have a0:0<ie.size:=by simpa using q.2.2
 refine aR (Good.value g ?_ (R.alloc (cp:=b.toNat) ht G (IC _) (I1 _) ⟨Y,lo,hi,rfl,g2,λi v r=>?_,by rw[GG];exact M,by rw[H];omega,by simp;omega⟩ rfl) (Ext.alloc R ht (I1 _) (ob:=.cells Y e (lo,hi)) rfl rfl rfl rfl));exact .gs 0 0 _ _ _ bF (by omega) (by omega) (by omega) (by omega);rw[GG,eG]at r;have U:i<l0.toNat*ie.size:=by have:=(GE.1 r).1;rwa[dI,f]at this
 have V:(rep z.cells.toList b.toNat)[i]? =some v:=by rw[mh z.cells.toList (by omega) _ _ (by rw[f];omega),<-mh z.cells.toList (by omega) l0.toNat i (by rw[f];exact U)];exact r
 exact X i v V;cases h;cases h;cases h;cases h;cases h;cases h
def sxBy(E:Env)(el:El)(A:AH)(ρ:Operand->Lj)(op:Op):Option (Ll×Value×AH):=
 match op with
 | .convert s d x=>(match ρ x with
   |some (.string b)=>none
   | some (.slice (some ⟨B,o,none⟩) n k)=>(match isG k,und E s,und E d,A.t.get B with
     | true,some (.slice e),some .string,some (.gro els tl eb)=>(match und E e,E.ti eb with
       |some (.int .u8),some ie=>bif Nat.beq ie.size 1&&Nat.beq (gsz k) 1 then some (some (IsB (glue els tl) o n),.string (ao (u8L (glue els tl) o n)),A)else none
       |_,_=>none)
     |_,_,_,_=>none)
   |_=>none)
 |_=>none
theorem Cm(i:E.Ok){el:El}(R:Rel E.P σ A w){o:Oper}{a:Act}(G:OpR σ ρ a.eval)(h:sxBy E el A ρ o.op=some (p,v,A'))(hp:PH p):Does E σ A w o a v A':=by
 unfold sxBy at h;split at h;rename_i s d x y;split at h;rename_i b U;cases h;rename_i B u n k U;split at h;rename_i e els tl eb hg I hd hB;split at h;rename_i ie K J;cases C:Nat.beq ie.size 1&&Nat.beq (gsz k) 1;rw[C]at h;cases h;rw[C]at h;simp only[C',osI,GC]at h;obtain⟨rfl,rfl,rfl⟩:=h;simp only[f',GL]at C;obtain⟨g,q1,q2,q3⟩:=v5 hp;rw[q3];have L:E.P.cellsOf eb=1:=by simp[Program.cellsOf,i.ti _ _ J,C.1]
 rcases b8 (G x _ U) hg with⟨e0,Z,Q⟩|⟨b,dd,c,lo,S,D,Q,a0,hc,eo⟩;have M:g=[]:=Hb (by omega);subst M;refine aR (Good.value (v':=.string ByteArray.empty) (w':=w) ?_ ?_ R (Ext.refl _ _ _));unfold execOp;rw[y];have:(convert s d (.slice Z 0 0)).run E.P w=.ok (.string ByteArray.empty) w:=by
  cases Z with
  |none=>simp[convert,af i I,af i hd,af i K,Conv.bytesToString]
  |some a'=>simp only[convert,GN,af i I,af i hd,GJ,af i K];have:=JF (P:=E.P) w a' 0 0 [] (by simp[loadCells,loadCellsFrom]);simpa using this
 simp[Q,this];have:ByteArray.empty=ao []:=by apply If;rfl
 rw [this];exact .string _;obtain⟨c',l0,h0,g1,g2,Y,O,g5,g6⟩:=R.at hB rfl D;rw[L]at O;rw[<-cb]at Y O;have r:∀ j z,(g.map λb=>Value.int .u8 (b.toNat:Int))[j]? =some z->w.cell? ((⟨b,dd+u,none⟩:Addr).add j)=some z:=λj z l=>by
  have hj:j<n:=by have:=(GE.1 l).1;simp at this;omega
  have h1:(glue els tl)[u+j]? =some z:=by rw[<-q1,GZ,Gw hj,GV]at l;exact l
  have X:(am (glue els tl))[(u+j)*1+0]? =z.cells.toList[0]?:=oZ O h1 0 (by decide);rw[Jq,Ht]at X;have H:∃ q:UInt8,z=.int .u8 (q.toNat:Int):=by
   rw[GR]at l;cases V:g[j]? with
   |none=>rw[V]at l;cases l
   |some q=>rw[V]at l;exact⟨q,(Hk l).symm⟩
  obtain⟨q,rfl⟩:=H;obtain⟨z',k1,k2⟩:=Y (u+j) _ X;cases k2;rw[aL];simp only[World.cell?,g1,IV,HO,HV];rw[Hs];exact k1
 have f:=I7 (P:=E.P) w ⟨b,dd+u,none⟩ (g.map λb=>Value.int .u8 (b.toNat:Int)) r;rw[GB,q2]at f;refine aR (Good.value (v':=.string (ao g)) (w':=w) ?_ (.string _) R (Ext.refl _ _ _));unfold execOp;rw[y];have e1:(g.map λb=>Value.int .u8 (b.toNat:Int))=(g.map λb=>(b.toNat:Int)).map (Value.int .u8):=by rw[Hl];rfl
 rw [e1]at f;have:(convert s d (.slice (some ⟨b,dd+u,none⟩) n S)).run E.P w=.ok (.string (ao g)) w:=by
  simp only[convert,GN,af i I,af i hd,GJ,af i K];rw[JF (P:=E.P) w _ n S _ f,iI,Hl];have e2:g.map ((λn:Int=>UInt8.ofNat n.toNat)∘λb:UInt8=>(b.toNat:Int))=g:=by
   conv=>rhs;rw[<-Il g]
   exact Ha λq _=>by simp
  rw[e2];rfl
 simp[Q,this];cases h;cases h;cases h;cases h
def pZ (E:Env)(A:AH)(ts:List TypeId)(B o n m:Nat):Option (Ll×Value×AH):=
 match ts with
 | t :: _=>(match und E t with
   | some (.slice e)=>(match E.ti e,A.t.get B with
     | some ie,some (.gro els tl eb)=>(match ie.zero with
       | some z=>bif (Nat.beq eb e&&(Nat.beq (gsz m) ie.size&&isG m))&&((z.cells.toList.all cellv&&z.cells.toList.all scal)&&(Nat.beq z.cells.toList.length ie.size&&Nat.blt 0 ie.size))then
        (match T.set FU A.t B (.gro (splc (glue els tl) (gLo ie.size o) (List.replicate n z)) [] eb)with
        |some t'=>some (some (gLo ie.size o+n<=(glue els tl).length),undef,⟨t',A.next⟩)
        |none=>none)else none
       |none=>none)
     |_,_=>none)
   |_=>none)
 |_=>none
theorem lJ(z:Value):∀ n:Nat,am (List.replicate n z)=rep z.cells.toList n
 |0=>rfl
 |n+1=>by rw[Ix,aV,lJ z n];rfl
theorem nZ{z:Lh}(h:z.all cellv=true):∀ n,(rep z n).all cellv=true
 |0=>rfl
 |n+1=>by simp only[rep,List.all_append,h,nZ h n];rfl
theorem tJ(M:E.Ok)(R:Rel E.P σ A w){ts:Array TypeId}{x':Value}{as:Array Value}(D:as[0]? =some x')(a:VR σ (.slice (some ⟨B,o,none⟩) n m) x')(h:pZ E A ts.toList B o n m=some (p,v,A'))(hp:PH p):
 ∃w',(Builtin.clear_ ts ty as).run E.P w=.ok (.tuple #[]) w'/\v=undef/\Rel E.P σ A' w'/\Ext σ A w σ A' w':=by
 unfold pZ at h;split at h;rename_i t a0 S;have K:=ki S;split at h;rename_i e hu;split at h;rename_i ie g q eb L Z;split at h;rename_i z hz;cases O:(Nat.beq eb e&&(Nat.beq (gsz m) ie.size&&isG m))&&((z.cells.toList.all cellv&&z.cells.toList.all scal)&&(Nat.beq z.cells.toList.length ie.size&&Nat.blt 0 ie.size));rw[O]at h;cases h;rw[O]at h;simp only[C']at h;simp only[f',GL,HY]at O;obtain⟨⟨rfl,X,hg⟩,⟨Y,U⟩,r,j⟩:=O;split at h;rename_i t' G;cases h;have f:gLo ie.size o+n<=(glue g q).length:=hp;rw[cb]at f G;have y:E.P.cellsOf eb=ie.size:=by simp[Program.cellsOf,M.ti _ _ L]
 by_cases u:n=0;subst u;have e0:splc (g++q) (gLo ie.size o) (List.replicate 0 z)=g++q:=by simp[splc]
 rw[e0]at G;obtain⟨xa,xk,rfl⟩:=oA a;obtain⟨R2,X2⟩:=R.retell Z G rfl rfl rfl λb d c V=>by obtain⟨c',I,hi,g1,g2,g3,H,g5,g6⟩:=V;exact⟨c',I,hi,g1,g2,by rw[GG];exact g3,by rw[GG];exact H,g5,by rw[GG];exact g6⟩
 refine⟨w,?_,rfl,R2,X2⟩;cases xa<;>simp[Builtin.clear_,K,D,af M hu];rcases b8 a hg with⟨rfl,_⟩|⟨b,d,c,I,kc,J,rfl,hn,hc,rfl⟩;exact absurd rfl u;rw[X]at D f G;rw[lp j]at f G;obtain⟨ca,l0,h0,g1,g2,g3,H,g5,g6⟩:=R.at Z rfl J;have l:∀ x∈List.replicate n z,x.cells.size=E.P.cellsOf eb:=λx a=>by rw[y,(Im.1 a).2];simpa using r
 have i:=lJ z n;have C:(am (List.replicate n z)).length=n*ie.size:=by rw[i,dI,r]
 obtain⟨w',r1,r2,r3⟩:=wy R Z J (vs:=am (List.replicate n z)) (vs':=am (List.replicate n z)) (off:=I*ie.size) (bu (by rw[i];exact jU U n) σ) (by rw[i];exact nZ Y n) (by
  rw[C,ap H,y,<-Ib];exact Hr _ f) (by
  have:=qp (lo:=I) H l;rw[y]at this;exact this) (λx a=>by
  unfold splc at a;rcases GW.1 a with a|a;exact H x (H5 a);rcases GW.1 a with a|a;exact l x a;exact H x (Ig a)) (pr (by rw[HA];exact f)) G
 refine⟨w',?_,rfl,r2,r3⟩;rw[i]at r1;have Q:(Builtin.zeroCells z.cells n).toList=rep z.cells.toList n:=by have:=gC z.cells n (.inl (by rw[<-Ii,r];exact j));unfold Builtin.zeroCells;rw[this]
 cases n with
 |zero=>exact absurd rfl u
 |succ n=>simp[Builtin.clear_,K,D,af M hu,fq M L hz,Q,r1]
 cases h;cases h;cases h;cases h;cases h
def sxXt (E:Env)(A:AH)(ρ:Operand->Lj)(op:Op):Option (Ll×Value×AH):=
 match op with
 | .call c=>(match c.callee with
   | .builtin .clear=>(match c.args.toList with
     | [x]=>(match ρ x with
       | some (.slice (some ⟨B,o,none⟩) n m)=>(match isG m with
         |true=>pZ E A c.argTypes.toList B o n m
         |false=>none)
       |_=>none)
     |_=>none)
   |_=>none)
 | .binOp .eql t x y _=>(match ρ x,ρ y,und E t with
   | some (.slice (some ⟨_,_,none⟩) n m),some (.slice none 0 0),some (.slice _)=>(match isG m with
     |true=>some (some (0<n),.bool false,A)
     |false=>none)
   |_,_,_=>none)
 |_=>none
theorem Ce(u:E.Ok)(R:Rel E.P σ A w){o:Oper}{a:Act}(f:OpR σ ρ a.eval)(h:sxXt E A ρ o.op=some (p,v,A'))(q:PH p):Does E σ A w o a v A':=by
 unfold sxXt at h;split at h;rename_i c g;split at h;rename_i M;split at h;rename_i x i;split at h;rename_i B C n m l;split at h;obtain⟨j,I,rfl,H,G⟩:=tJ u R (ty:=o.type) (as:= #[a.eval x]) rfl (f x _ l) h q;refine aR (Good.value (v':=.tuple #[]) (w':=j) ?_ (cz σ) H G);unfold execOp;rw[g];simp only[resolve,M,GN,HB,GJ,invoke];rw[vm i a.eval];simp[builtin,I];cases h;cases h;cases h;cases h;rename_i t x y S g;split at h;rename_i B C n m V l J K;split at h;rename_i L;cases h;have q:0<n:=q;have O:a.eval y=.slice none 0 0:=by have:=f y _ J;generalize a.eval y=z at this;cases this;rfl
 rcases b8 (f x _ l) L with⟨rfl,_⟩|⟨b,d,c,U,k,_,Q,_,_,_⟩;omega;refine aR (Good.value (v':=.bool false) (w':=w) ?_ (.bool _) R (Ext.refl _ _ _));unfold execOp;rw[g];have D:(do eqGuard .eql t x y (a.eval x) (a.eval y);binOp .eql t (a.eval x) (a.eval y)).run E.P w=.ok (.bool false) w:=by rw[Q,O];exact(fh (P:=E.P) (t:=t) (a:=.slice (some ⟨b,d+C,none⟩) n k) (b:=.slice none 0 0) (x:=x) (y:=y) (r:=false) (w:=w) (by unfold Op.equal Op.maxDepth;rw[show(10000:Nat)=9999+1 from rfl];unfold Op.equalIn;rw[GN,af u K,GJ];rfl) rfl rfl rfl rfl).1
 simp only[GN]at D ⊢;rw[D];rfl;cases h;cases h;cases h
def sxOp (tab:Tab)(inl:Inl)(E:Env)(el:El)(A:AH)(ρ:Operand->Lj)(ty:TypeId)(op:Op)(K:KV):Prop:=
 match sxQ E el A ρ ty op with
 |some r=>pc r.1 (K r.2 A)
 | none =>(match sxMk E el A ρ op with
   |some r=>pc r.1 (K r.2.1 r.2.2)
   | none =>(match sxBy E el A ρ op with
     |some r=>pc r.1 (K r.2.1 r.2.2)
     | none=>(match sxXt E A ρ op with
       |some r=>pc r.1 (K r.2.1 r.2.2)
       | none=>(match bX E ρ op with
         |some r=>(match cK A r.1 with|some A'=>K (r.2 A.next) A'|none=>False)
         |none=>sxEff tab inl E el A ρ op K))))
def sxOps(tab:Tab)(inl:Inl)(E:Env)(el:El)(ops:List Oper)(n:Nat)(l:List Oper):T Value->AH->KF->Prop:=
 List.rec (motive:=λ_=>T Value->AH->KF->Prop) (λF A K=>K F A)
  (λo _ ih F A K=>sxG ops F o (λF=>sxOp tab inl E el A (ev E F) o.type o.op (λv A'=>foK (el.fo o.dst) v A' (λv2 A2=>putK n F o.dst v2 (λF'=>nilK E (el.hk o.dst) F' A2 (λF2 A3=>ih F2 A3 K))))) (λF=>putK n F o.dst undef (λF'=>ih F' A K))) l
def x6(E:Env)(inl:Inl):Prop:=∀ g fn,E.fn g=some fn->∀ args A K,inl fn args A K->∀ σ w args',Rel E.P σ A w->Glob E σ->VRs σ args args'->
 Calls E.P g ⟨args'⟩ w (λe w'=>∃ v A' v' σ',e=.returned v'/\K v A'/\VR σ' v v'/\Rel E.P σ' A' w'/\Ext σ A w σ' A' w')
def DoesK(E:Env)(σ:Sig)(A:AH)(w:World)(o:Oper)(a:Act)(K:KV):Prop:=
 ∀(K1:Act->World->Prop) (Q:Exit->Act->World->Prop),(∀v A' v' w' σ',K v A'->VR σ' v v'->Rel E.P σ' A' w'->Ext σ A w σ' A' w'->K1 (a.put o.dst v') w')->o.wp E.P a w K1 Q
theorem DoesK.of{o:Oper}{a:Act}{K:KV}(h:Does E σ A w o a v A')(k:K v A'):DoesK E σ A w o a K:=
 λq Q g=>h q Q λv' f b l j i=>g v A' v' f b k l j i
theorem Cj(l:E.Ok)(hs:E.sym=true){z:Tab}(H:TabOk E z){inl:Inl}(hi:x6 E inl){el:El}(R:Rel E.P σ A w)(hg:Glob E σ){o:Oper}{a:Act}(i:OpR σ ρ a.eval){K:KV}
 (h:sxOp z inl E el A ρ o.type o.op K):DoesK E σ A w o a K:=by
 unfold sxOp at h;split at h;rename_i r j;obtain⟨q,k⟩:=dh h;exact .of (lE l R i (uo hs j q)) k;split at h;rename_i r j;obtain⟨q,k⟩:=dh h;exact .of (Ck l R i (p:=r.1) (v:=r.2.1) (A':=r.2.2) j q) k;split at h;rename_i r j;obtain⟨q,k⟩:=dh h;exact .of (Cm l R i (p:=r.1) (v:=r.2.1) (A':=r.2.2) j q) k;split at h;rename_i r j;obtain⟨q,k⟩:=dh h;exact .of (Ce l R i (p:=r.1) (v:=r.2.1) (A':=r.2.2) j q) k;split at h;rename_i r j;split at h;rename_i A' hn;exact .of (lF l R i (ob:=r.1) (fv:=r.2) j hn) h;exact h.elim;suffices key:∀ K,uu z inl E A ρ o.op K->DoesK E σ A w o a K by unfold sxEff at h;split at h;rename_i r j;have H:=sxT_ok (s:=r.1) (b:=r.2.1) (r:=r.2.2) j;rcases Sp.cases h with⟨J,k⟩|⟨J,k⟩;exact .of (aR (oR l R i (H.1 J))) k;obtain⟨q,k⟩:=dh k;exact .of (aR (oR l R i (H.2 J q))) k;split at h;rename_i r j;obtain⟨q,k⟩:=dh h;exact .of (aR (oR l R i (ur (p:=r.1) (v:=r.2.1) (A':=r.2.2) j q))) k;exact key _ h
 clear h;intro K h;unfold uu at h;split at h;rename_i r j;exact .of (aR (oR l R i j)) h;split at h;rename_i r M;obtain⟨f,S,u⟩:=so l i (g:=r.1) (args:=r.2) M;unfold Ar at h;split at h;rename_i fn D;have Z:∀ Q1:Ending->World->Prop,True:=λ_=>trivial;split at h;rename_i x L;split at h;rename_i G C;obtain⟨q,k⟩:=dh h;intro K1 Q U;unfold Oper.wp;rw[u,dD l D];show Calls E.P r.1 ⟨f⟩ w _;refine(H.get L r.2 A G.1 G.2.1 G.2.2 C q σ w f R hg S).mono λe I O=>?_;obtain⟨v',y,rfl,Y,X,V⟩:=O;exact U _ _ v' I y k Y X V;exact h.elim;intro K1 Q U;unfold Oper.wp;rw[u,dD l D];show Calls E.P r.1 ⟨f⟩ w _;refine(hi r.1 fn D r.2 A K h σ w f R hg S).mono λe I O=>?_;obtain⟨v,A',v',y,rfl,k,Y,X,V⟩:=O;exact U _ _ v' I y k Y X V;split at h;rename_i x L;split at h;rename_i G C;refine .of (aR ?_) h;rw[u];exact l.ext r.1 x r.2 A G.1 G.2 L C σ w f R S;exact h.elim;exact h.elim;exact h.elim
theorem eV{a:Option Tmp}{k:T Value->Prop}(h:putK n F a v k):∃ b,put n F a v=some b/\k b:=by unfold putK at h;split at h;rename_i b f;exact⟨b,f,h⟩;exact h.elim
theorem lY{E:Env}(z:E.Ok)(M:E.sym=true){b:Tab}(L:TabOk E b){inl:Inl}(C:x6 E inl){r:El}{ops:Array Oper}{n:Nat}{Q:Exit->Act->World->Prop}:∀ (l:List Oper) (k:Nat) (F:T Value) (A:AH) (σ:Sig) (a:Act) (w:World) (K:KF),
 sxOps b inl E r ops.toList n l F A K->(∀(i:Nat),i<l.length->ops[k+i]? =l[i]?)->Rel E.P σ A w->Glob E σ->FR σ F n a->
 (∀u A' a' w' σ',K u A'->FR σ' u n a'->Rel E.P σ' A' w'->Ext σ A w σ' A' w'->Q .normal a' w')->wpOps E.P ops Q (List.range' k l.length) a w
 | [],k,F,A,σ,a,w,K,h,_,R,hg,hF,hQ=>hQ F A a w σ h hF R (Ext.refl _ _ _)
 | o::rest,k,F,A,σ,a,w,K,h,hl,R,hg,hF,hQ=>by
  have h0:ops[k]? =some o:=by have:=hl 0 (by simp);simpa using this
  have Z:∀ (i:Nat),i<rest.length->ops[k+1+i]? =rest[i]?:=λi C=>by have:=hl (i+1) (by simp;omega);rw[show k+1+i=k+(i+1)by omega,this];simp
  rw[GY,Je,wpOps_cons];unfold wpOp;simp only[h0];have h:sxG ops.toList F o (λF=>sxOp b inl E r A (ev E F) o.type o.op (λv A'=>foK (r.fo o.dst) v A' (λv2 Y=>putK n F o.dst v2 (λu=>nilK E (r.hk o.dst) u Y (λy X=>sxOps b inl E r ops.toList n rest y X K))))) (λF=>putK n F o.dst undef (λu=>sxOps b inl E r ops.toList n rest u A K)):=h;rcases Aq h with⟨I,h⟩|⟨I,h⟩;rw[lS (σ:=σ) (F:=F) (λ_ _ _ d _ _ _=>hF.val d) I];rw[Gw rfl];left;refine Cj z M L C R hg (oO hg hF.val) h _ _ λv0 A0 v' w' a0 O V U S=>?_;obtain⟨v,A1,σ',j,h1,h2,D⟩:=foK_ok O V U;have D:=S.trans D;obtain⟨F1,f,j⟩:=eV j;have g:=Ext.sub R D;obtain⟨y,X,j,J⟩:=mL (E:=E) z (A0:=A1) (n:=n) j;obtain⟨G,g1,g2,g3,g4⟩:=J σ' w' _ w' ⟨σ',mw (hF.mono g) h1 f,h2,hg.sub g,Ext.refl _ _ _⟩;exact lY z M L C rest (k+1) y X G _ w' K j Z g2 g3 g1 λy Y a2 w2 H q k1 k2 k3=>hQ y Y a2 w2 H q k1 k2 (D.trans (g4.trans k3));rw[lS (σ:=σ) (F:=F) (λ_ _ _ d _ _ _=>hF.val d) I];rw[D' (by simp)];obtain⟨F1,f,j⟩:=eV h;exact lY z M L C rest (k+1) F1 A σ _ w K j Z R hg (mw hF (cz σ) f) hQ
theorem W.sxOps(D:E.Ok)(H:E.sym=true){b:Tab}(G:TabOk E b){inl:Inl}(l:x6 E inl){M:El}{Q:Post}{id:Nat}{ops:Array Oper}
 (h:AM.sxOps b inl E M ops.toList n ops.toList F A (Q .normal)):W E A0 n (.region id ops false) Q F A:=by intro u U a w g R J;obtain⟨σ,L,r,q,K⟩:=g;refine wp_region ?_;have:=lY D H G l (Q:=R) ops.toList 0 F A σ a w _ h (λi l=>by simp) r q L (λS A' O y f I C z j=>J .normal S A' O y I ⟨f,C,z,q.sub (Ext.sub r j),K.trans j⟩);rw[ID];simpa using this
def pp (tab:Tab)(E:Env)(A:AH)(ρ:Operand->Lj)(op:Op)(K:KV):Prop:=
 match effA E A ρ op with
 |some r=>K r.1 r.2
 | none =>(match i6 E ρ op with
   | some r=>(match E.fn r.1 with
     | some _=>(match po tab r.1 with
       |some x=>(match x r.2 A with|some r=>pc r.1 (K r.2.1 r.2.2)|none=>Stop r)
       |none=>Stop r)
     | none=>(match E.ext r.1 with
       |some x=>(match x r.2 A with|some r=>K r.1 r.2|none=>Stop r)
       |none=>Stop r))
   |none=>Stop (op,A))
theorem sX{f:Tab}{q:Op}{K:KV}(h:pp f E A ρ q K):∃ v A',c8 (ua f) E A ρ q=some (v,A')/\K v A':=by unfold pp at h;unfold c8;split at h;rename_i r j;rw[j];exact⟨_,_,rfl,h⟩;rename_i j;rw[j];simp only;split at h;rename_i r l;rw[l];simp only;split at h;rename_i fn b;rw[b];simp only;split at h;rename_i x i;split at h;rename_i g a;obtain⟨u,k⟩:=dh h;refine⟨g.2.1,g.2.2,?_,k⟩;obtain⟨p,v,A'⟩:=g;unfold ua;rw[i];simp only[a];rw[Gw u];exact h.elim;exact h.elim;rename_i b;rw[b];simp only;split at h;rename_i x i;rw[i];simp only;split at h;rename_i g a;exact⟨_,_,a,h⟩;exact h.elim;exact h.elim;exact h.elim
def ut(tab:Tab)(E:Env)(el:El)(A:AH)(ρ:Operand->Lj)(op:Op)(K:KV):Prop:=
 match sxG1 E el A ρ op with
 |some r=>pc r.1 (K r.2.1 r.2.2)
 |none=>pp tab E A ρ op K
theorem us{a:Tab}{i:El}{b:Op}{K:KV}(h:ut a E i A ρ b K):∃ v A',c8 (ua a) E A ρ b=some (v,A')/\K v A':=by unfold ut at h;split at h;rename_i r f;obtain⟨g,k⟩:=dh h;refine⟨r.2.1,r.2.2,?_,k⟩;unfold c8;rw[ur (p:=r.1) (v:=r.2.1) (A':=r.2.2) f g];exact sX h
def qcK(E:Env)(el:El)(als:List Al)(G:AH)(q:Qu)(K:Prop):Prop:=
 match b6 q.m als G with
 |some H=>(match sxQ E el H (rho E q.F (bG q.o.op)) q.o.type q.o.op with|some r=>pc r.1 (r.2=q.v/\K)|none=>False)
 |none=>False
theorem AD(b:E.sym=true){j:El}{a:List Al}{G:AH}{q:Qu}{K:Prop}(h:qcK E j a G q K):QC E a G q/\K:=by unfold qcK at h;split at h;rename_i H i;split at h;rename_i r f;obtain⟨g,e,k⟩:=dh h;exact⟨⟨H,i,by rw[<-e];exact uo b f g⟩,k⟩;exact h.elim;exact h.elim
def qsK(E:Env)(el:El)(als:List Al)(G:AH)(m:Nat)(qs:List Qu)(K:Prop):Prop:=
 List.rec (motive:=λ_=>Prop) K (λq _ ih=>bif m.testBit q.i then ih else qcK E el als G q ih) qs
theorem u4{E:Env}(f:E.sym=true){b:El}{a:List Al}{G:AH}{m:Nat}{K:Prop}:∀ {qs:List Qu},qsK E b a G m qs K->QOk E a G m qs/\K
 | [],h=>⟨.nil,h⟩
 | q::qs,h=>by
  have h:(bif m.testBit q.i then qsK E b a G m qs K else qcK E b a G q (qsK E b a G m qs K)):=h;cases g:m.testBit q.i with
  |true=>rw[g]at h;obtain⟨l,j⟩:=u4 f (qs:=qs) h;exact⟨.bit g l,j⟩
  |false=>rw[g]at h;obtain⟨r,h⟩:=AD f h;obtain⟨l,j⟩:=u4 f (qs:=qs) h;exact⟨.chk r l,j⟩
def Da(E:Env)(el:El)(als:List Al)(q:Qu)(past:List (Nat×AH))(K:Prop):Prop:=
 List.rec (motive:=λ_=>Prop) K (λx _ ih=>bif q.m.testBit x.1 then K else qcK E el als x.2 q ih) past
theorem q8{E:Env}(g:E.sym=true){f:El}{a:List Al}{q:Qu}{K:Prop}:∀ {past:List (Nat×AH)},Da E f a q past K->POk E a q past/\K
 | [],h=>⟨.nil,h⟩
 | x::past,h=>by
  have h:(bif q.m.testBit x.1 then K else qcK E f a x.2 q (Da E f a q past K)):=h;cases b:q.m.testBit x.1 with
  |true=>rw[b]at h;exact⟨.bit b,h⟩
  |false=>rw[b]at h;obtain⟨l,h⟩:=AD g h;obtain⟨j,i⟩:=q8 g (past:=past) h;exact⟨.chk l j,i⟩
def mk(ms:Lg)(i:Nat):Nat:=(nth ms i).getD 0
def sxAl (E:Env)(el:El)(ρ:Operand->Lj)(op:Op):Option (Ll×AObj×(Nat->Value)):=
 match op with
 | .makeSlice t l c=>(match und E t with
   | some (.slice e)=>(match el.gm e with
     | true=>(match ρ l,ρ c,E.ti e with
       | some (.int _ l),some (.int _ c),some ie=>(match ie.zero with
         | some z=>bif z.cells.toList.all scal&&(Nat.beq z.cells.toList.length ie.size&&Nat.blt 0 ie.size)then
          some (some (0<=l/\l<=c/\c<=281474976710656/\ie.bytes*c.toNat<=281474976710656),.cells (rep z.cells.toList c.toNat) e,λid=>.slice (some ⟨id,0,none⟩) l.toNat c.toNat)else none
         |none=>none)
       |_,_,_=>none)
     |false=>none)
   |_=>none)
 |_=>none
theorem Co{I:El}{g:Op}{r:AObj×(Nat->Value)}(h:sxAl E I ρ g=some (p,r))(D:PH p):bX E ρ g=some r:=by
 unfold sxAl at h;split at h;rename_i t l c;split at h;rename_i e C;split at h;split at h;rename_i L l0 K b ie G H f;split at h;rename_i z y;cases a:(z.cells.toList.all scal&&(Nat.beq z.cells.toList.length ie.size&&Nat.blt 0 ie.size));rw[a]at h;cases h;rw[a]at h;simp only[C',osI,GC]at h;obtain⟨rfl,rfl⟩:=h;obtain⟨u,q,j,i⟩:0<=l0/\l0<=b/\b<=281474976710656/\ie.bytes*b.toNat<=281474976710656:=D;simp only[f']at a;have J:Nat.ble (ie.bytes*b.toNat) 281474976710656=true:=by rw[GO];exact i
 simp only[bX,C,G,H,f,y,a.1,a.2.1,a.2.2,u,q,j,J,Ia,HU,C'];cases h;cases h;cases h;cases h;cases h
theorem uP(z:Value):∀ n:Nat,rep [z] n=List.replicate n z
 |0=>rfl
 |n+1=>by rw[Ix,<-uP z n];rfl
def uN (tab:Tab)(E:Env)(el:El)(ms:Lg)(n n0 sz:Nat)(o:Oper)(ih:Nat->RS->(RS->Prop)->Prop)(i:Nat)(F:T Value)(G:AH)(past:List (Nat×AH))(als:List Al)(qs:List Qu)(K:RS->Prop):Prop:=
 match gN E o.op with
 | true=>(match b6 (mk ms i) als G with
   | some H=>ut tab E el H (rho E F (bG o.op)) o.op (λv G'=>bif als.all (tG H G')&&Nat.ble (n0+sz) G'.next then
    qsK E el als G' (mk ms i) qs (putK n F o.dst v (λF'=>ih (i+1) ⟨F',G',(i,G)::past,als,qs⟩ K))else False)
   |none=>False)
 | false =>(match sxAl E el (rho E F (bG o.op)) o.op with
  |some r0=>pc r0.1 (bif (vis G (n0+i)).isNone&&past.all (λp=>(vis p.2 (n0+i)).isNone)then putK n F o.dst (r0.2.2 (n0+i)) (λF'=>ih (i+1) ⟨F',G,past,(i,n0+i,r0.2.1)::als,qs⟩ K)else False)
  | none =>(match bX E (rho E F (bG o.op)) o.op with
   |some r=>bif (vis G (n0+i)).isNone&&past.all (λp=>(vis p.2 (n0+i)).isNone)then putK n F o.dst (r.2 (n0+i)) (λF'=>ih (i+1) ⟨F',G,past,(i,n0+i,r.1)::als,qs⟩ K)else False
   | none =>(match b6 (mk ms i) als G with
     | some H=>(match sxQ E el H (rho E F (bG o.op)) o.type o.op with
       | some r=>pc r.1 (match hdep o.op with
         |true=>Da E el als ⟨i,mk ms i,o,F,r.2⟩ past (putK n F o.dst r.2 (λF'=>ih (i+1) ⟨F',G,past,als,⟨i,mk ms i,o,F,r.2⟩::qs⟩ K))
         |false=>putK n F o.dst r.2 (λF'=>ih (i+1) ⟨F',G,past,als,qs⟩ K))
       |none=>Stop (o.op,H))
     |none=>False)))
def sxRL(tab:Tab)(E:Env)(el:El)(ops:List Oper)(ms:Lg)(n n0 sz:Nat)(l:List Oper):Nat->RS->(RS->Prop)->Prop:=
 List.rec (motive:=λ_=>Nat->RS->(RS->Prop)->Prop) (λ_ S K=>K S)
  (λo _ ih i S K=>sxG ops S.F o (λF=>uN tab E el ms n n0 sz o ih i F S.G S.past S.als S.qs K) (λF=>putK n F o.dst undef (λF'=>ih (i+1) ⟨F',S.G,S.past,S.als,S.qs⟩ K))) l
theorem fY{f:Tab}{E:Env}(g:E.sym=true){O:El}{ops:List Oper}{I:Lg}{n j sz:Nat}:∀ (l:List Oper) (i:Nat) (S:RS) (K:RS->Prop),sxRL f E O ops I n j sz l i S K->RL (ua f) E ops I n j sz l i S K
 | [],i,S,K,h=>.nil h
 |o::l,i,⟨F,G,past,als,qs⟩,K,h=>by have h:sxG ops F o (λF=>uN f E O I n j sz o (sxRL f E O ops I n j sz l) i F G past als qs K) (λF=>putK n F o.dst undef (λz=>sxRL f E O ops I n j sz l (i+1) ⟨z,G,past,als,qs⟩ K)):=h;rcases Aq h with⟨q,h⟩|⟨q,h⟩;unfold uN at h;split at h;rename_i C;split at h;rename_i H M;obtain⟨v,U,V,h⟩:=us h;cases b:(als.all (tG H U)&&Nat.ble (j+sz) U.next);rw[b]at h;exact h.elim;rw[b]at h;simp only[f']at b;obtain⟨L,h⟩:=u4 g h;obtain⟨z,y,h⟩:=eV h;exact RL.eff g q C M V b.1 L b.2 y (fY g l (i+1) _ K h);exact h.elim;rename_i C;split at h;rename_i J Q;obtain⟨R,h⟩:=dh h;have D:=Co (p:=J.1) (r:=J.2) Q R;cases b:((vis G (j+i)).isNone&&past.all (λp=>(vis p.2 (j+i)).isNone));rw[b]at h;exact h.elim;rw[b]at h;obtain⟨z,y,h⟩:=eV h;exact RL.alloc q C (ob:=J.2.1) (fv:=J.2.2) D b y (fY g l (i+1) _ K h);split at h;rename_i r D;cases b:((vis G (j+i)).isNone&&past.all (λp=>(vis p.2 (j+i)).isNone));rw[b]at h;exact h.elim;rw[b]at h;obtain⟨z,y,h⟩:=eV h;exact RL.alloc q C (ob:=r.1) (fv:=r.2) D b y (fY g l (i+1) _ K h);rename_i D;split at h;rename_i H M;split at h;rename_i r X;obtain⟨y,h⟩:=dh h;have L:=uo g X y;split at h;rename_i hd;obtain⟨u,h⟩:=q8 g h;obtain⟨z,a,h⟩:=eV h;exact RL.read g q C D M L hd u a (fY g l (i+1) _ K h);rename_i hd;obtain⟨z,a,h⟩:=eV h;exact RL.quiet q C D M L hd a (fY g l (i+1) _ K h);exact h.elim;exact h.elim;obtain⟨z,a,h⟩:=eV h;exact RL.skip q a (fY g l (i+1) _ K h)
def sxReg(tab:Tab)(E:Env)(el:El)(ops:Array Oper)(l:List Oper)(sz:Nat)(n:Nat)(F:T Value)(A:AH)(K:KF):Prop:=
 bif n6 E ops&&Nat.blt (A.next+sz+1) 1099511627776 then
  sxRL tab E el l (eZ l []) n A.next sz l 0 ⟨F,⟨A.t,A.next+sz⟩,[],[],[]⟩ (λS=>match b6 (2 ^ sz-1) S.als S.G with|some A'=>K S.F A'|none=>False)
 else False
theorem W.sxReg(g:E.Ok)(j:E.sym=true){a:Tab}(i:TabOk E a){r:El}{Q:Post}{id:Nat}{ops:Array Oper}
 (h:AM.sxReg a E r ops ops.toList ops.toList.length n F A (Q .normal)):W E A0 n (.region id ops true) Q F A:=by unfold AM.sxReg at h;cases b:(n6 E ops&&Nat.blt (A.next+ops.toList.length+1) 1099511627776);rw[b]at h;exact h.elim;rw[b]at h;simp only[f']at b;refine W.drawn g (zX i) b.1 rfl rfl rfl b.2 ?_;obtain⟨u,q,f⟩:=fY j _ _ _ _ h;refine⟨u,q,?_⟩;split at f;rename_i A' l;exact⟨A',l,f⟩;exact f.elim
def fwd:Ld->Nat->Lk
 | [],_=>none
 |x::m,B=>bif Nat.beq B x.2 then some x.1 else fwd m B
def bak(m:Ld)(B B':Nat):Bool:=match back m B' with|some C=>Nat.beq C B|none=>false
def renB(m:Ld)(B:Nat):Lk:=match fwd m B with|some B'=>bif bak m B B' then some B' else none|none=>none
theorem pw{m:Ld}{B':Nat}(h:renB m B=some B'):back m B'=some B:=by unfold renB at h;split at h;rename_i C f;cases a:bak m B C;rw[a]at h;cases h;rw[a]at h;simp only[C',osI]at h;subst h;unfold bak at a;split at a;rename_i D b;rw[b,Gy a];cases a;cases h
abbrev RL2:=Option (Lh×Value)
def renL(f:Value->RL2)(l:Lh):Option (Lh×Lh):=
 List.rec (motive:=λ_=>Option (Lh×Lh)) (some ([],[])) (λv _ ih=>match f v with
  |some r=>(match ih with|some s=>some (r.1++s.1,r.2::s.2)|none=>none)
  |none=>none) l
def renV(m:Ld):Nat->Value->RL2
 |0,_=>none
 | k+1,v=>match v with
   | .pointer (some ⟨B,i,none⟩)=>(match renB m B with|some B'=>some ([],.pointer (some ⟨B',i,none⟩))|none=>none)
   | .slice (some ⟨B,i,none⟩) n c=>(match renB m B with|some B'=>some ([],.slice (some ⟨B',i,none⟩) n c)|none=>none)
   | .map (some B)=>(match renB m B with|some B'=>some ([],.map (some B'))|none=>none)
   | .agg ⟨xs⟩=>(match renL (renV m k) xs with|some r=>some (r.1,.agg ⟨r.2⟩)|none=>none)
   | .tuple ⟨xs⟩=>(match renL (renV m k) xs with|some r=>some (r.1,.tuple ⟨r.2⟩)|none=>none)
   | .iface t x=>(match renV m k x with|some r=>some (r.1,.iface t r.2)|none=>none)
   | .func (.yield sz) xs ys=>some ([.func (.yield sz) xs ys],.func (.yield sz) xs ys)
   | .func (.func g) ⟨xs⟩ ⟨ys⟩=>(match renL (renV m k) xs,renL (renV m k) ys with|some r,some s=>some (r.1++s.1,.func (.func g) ⟨r.2⟩ ⟨s.2⟩)|_,_=>none)
   |v=>bif scal v then some ([],v)else none
def HFs(l:Lh)(p:Prop):Prop:=List.rec (motive:=λ_=>Prop) p (λv _ ih=>HF v/\ih) l
theorem gz{p:Prop}:∀ {l:Lh},HFs l p->(∀x∈l,HF x)/\p
 | [],h=>⟨λx a=>by simp at a,h⟩
 |v::l,h=>by obtain⟨f,b⟩:=gz (l:=l) h.2;exact⟨HF.cons h.1 f,b⟩
theorem cS{ρ:Nat->Lk}{f:Value->RL2}(b:∀ v r,f v=some r->(∀x∈r.1,HF x)->RV ρ v r.2):∀ {l:Lh}{r:Lh×Lh},renL f l=some r->(∀x∈r.1,HF x)->RVs ρ l r.2
 | [],r,h,_=>by have h:some ([],[])=some r:=h;cases h;exact .nil
 |v::l,r,h,hh=>by have h:(match f v with|some r=>(match renL f l with|some s=>some (r.1++s.1,r.2::s.2)|none=>none)|none=>none)=some r:=h;split at h;rename_i g j;split at h;rename_i s i;cases h;exact .cons (b v g j λx a=>hh x (by simp[a])) (cS b i λx a=>hh x (by simp[a]));cases h;cases h
theorem cm{m:Ld}:∀ (k:Nat) (v:Value) (r:Lh×Value),renV m k v=some r->(∀x∈r.1,HF x)->RV (back m) v r.2
 |0,v,r,h,_=>by cases h
 |k+1,v,r,h,hh=>by unfold renV at h;split at h;split at h;rename_i g b;cases h;exact .ptr (pw b);cases h;split at h;rename_i g b;cases h;exact .slice (pw b);cases h;split at h;rename_i g b;cases h;exact .map (pw b);cases h;split at h;rename_i s a;cases h;exact .agg (cS (cm k) a hh);cases h;split at h;rename_i s a;cases h;exact .tuple (cS (cm k) a hh);cases h;split at h;rename_i s a;cases h;exact .iface (cm k _ _ a hh);cases h;cases h;exact .hf (hh _ (by simp));split at h;rename_i s1 q l j;cases h;exact .func rfl (cS (cm k) l λx f=>hh x (by simp[f])) (cS (cm k) j λx f=>hh x (by simp[f]));cases h;rw[Bool.cond_eq_ite]at h;split at h;rename_i i;cases h;exact .hf (.scal i);cases h
def sV(m:Ld)(F:T Value)(l:Lg):Option (Lh×List (Nat×Value)):=
 List.rec (motive:=λ_=>Option (Lh×List (Nat×Value))) (some ([],[])) (λt _ ih=>match F.get t with
  | some v=>(match renV m 8 v with
    |some r=>(match ih with|some s=>some (r.1++s.1,(t,r.2)::s.2)|none=>none)
    |none=>none)
  |none=>none) l
theorem lW{m:Ld}{F:T Value}:∀ {l:Lg}{r},sV m F l=some r->(∀x∈r.1,HF x)->RenF m F r.2
 | [],r,h,_=>by have h:some ([],[])=some r:=h;cases h;exact .nil
 | t ::l,r,h,hh=>by
  have h:(match F.get t with
   | some v=>(match renV m 8 v with
     |some r=>(match sV m F l with|some s=>some (r.1++s.1,(t,r.2)::s.2)|none=>none)
     |none=>none)
   |none=>none)=some r:=h
  split at h;rename_i v f;split at h;rename_i b i;split at h;rename_i s g;cases h;exact .cons f (cm 8 v b i λx a=>hh x (by simp[a])) (lW g λx a=>hh x (by simp[a]));cases h;cases h;cases h
def inL(k:Nat)(l:Lg):Bool:=l.any λx=>Nat.beq x k
def renW(o:AObj):Option (Lh×AObj):=
 match o with
 | .cells c e=>some ([.agg ⟨c⟩],.cells c e)
 | .gro els tl e=>some ([.agg ⟨glue els tl⟩],.gro (glue els tl) [] e)
 | .map es k=>some ([.agg ⟨es.map λx=>x.2.1⟩],.map es k)
 |_=>none
def isWh(ws:Lg)(o:AObj):Bool:=match o with| .cells _ e=>inL e ws| .gro _ _ _=>true| .map _ _=>true|_=>false
theorem lQ(h:HF (.agg ⟨c⟩)):∀ x∈c,HF x:=by
 cases h with
 |scal h=>simp[scal]at h
 |agg h=>exact h
theorem mi{ρ:Nat->Lk}{o:AObj}{r:Lh×AObj}(h:renW o=some r)(g:∀ x∈r.1,HF x):RO ρ o r.2:=by
 unfold renW at h;split at h;cases h;exact .cells (RVs.hf (lQ (g _ (by simp))));cases h;refine .gro λx a=>?_;rw[<-cb]at a;obtain⟨y,q,a⟩:=List.mem_flatMap.1 a;have f:=lQ (g _ (by simp)) y q;cases y with
 |agg j=>obtain⟨j⟩:=j;exact lQ f x a
 |_=>simp only[Value.cells,Hi]at a;first|(rw[a];exact f)|(simp at a;rw[a];exact f)
 rename_i i k;cases h;refine .map ?_;have b:=lQ (g (.agg ⟨i.map λx=>x.2.1⟩) (by simp));clear g;induction i with
 |nil=>exact .nil
 |cons y i l=>obtain⟨u,v1,z⟩:=y;exact .cons (.hf (b v1 (by simp))) (l λx a=>b x (by simp only[Hj,GI];exact .inr a))
 cases h
def renO(m:Ld)(o:AObj):Option (Lh×AObj):=
 match o with
 | .cells c e=>(match renL (renV m 8) c with|some r=>some (r.1,.cells r.2 e)|none=>none)
 | .ro c e=>(match renL (renV m 8) c with|some r=>some (r.1,.ro r.2 e)|none=>none)
 | .arr els c n e=>(match renL (renV m 8) c with|some r=>some (.agg ⟨els⟩::r.1,.arr els r.2 n e)|none=>none)
 | .dead=>some ([],.dead)
 |_=>none
theorem mj{m:Ld}{o:AObj}{r:Lh×AObj}(h:renO m o=some r)(a:∀ x∈r.1,HF x):RO (back m) o r.2:=by unfold renO at h;split at h;split at h;rename_i s f;cases h;exact .cells (cS (cm 8) f a);cases h;split at h;rename_i s f;cases h;exact .ro (cS (cm 8) f a);cases h;split at h;rename_i i g;cases h;exact .arr (λx b=>lQ (a _ (by simp)) x b) (cS (cm 8) g λx b=>a x (by simp[b]));cases h;cases h;exact .dead;cases h
def Cb(ws:Lg)(m:Ld)(A:AH)(l:Ld):Option (Lh×List (Nat×AObj)):=
 List.rec (motive:=λ_=>Option (Lh×List (Nat×AObj))) (some ([],[])) (λx _ ih=>match A.t.get x.2 with
  | some o=>(match(bif isWh ws o then renW o else renO m o)with
    |some r=>(match ih with|some s=>some (r.1++s.1,(x.1,r.2)::s.2)|none=>none)
    |none=>none)
  |none=>none) l
theorem qE{ws:Lg}{m:Ld}{A:AH}:∀ {l:Ld}{r},Cb ws m A l=some r->(∀x∈l,back m x.1=some x.2)->(∀x∈r.1,HF x)->RenH m A r.2
 | [],r,h,_,_=>by have h:some ([],[])=some r:=h;cases h;exact .nil
 | t ::l,r,h,hb,hh=>by
  have h:(match A.t.get t.2 with
   | some o=>(match(bif isWh ws o then renW o else renO m o)with
     |some r=>(match Cb ws m A l with|some s=>some (r.1++s.1,(t.1,r.2)::s.2)|none=>none)
     |none=>none)
   |none=>none)=some r:=h
  split at h;rename_i v i;split at h;rename_i g b;split at h;rename_i s j;cases h;have q:RO (back m) v g.2:=by
   cases f:isWh ws v with
   |true=>rw[f]at b;exact mi b λx a=>hh x (by simp[a])
   |false=>rw[f]at b;exact mj b λx a=>hh x (by simp[a])
  exact .cons (hb t (by simp)) i q (qE j (λx a=>hb x (by simp[a])) λx a=>hh x (by simp[a]));cases h;cases h;cases h
def baks(m:Ld):Bool:=m.all λx=>bak m x.2 x.1
def kL (ws:Lg)(m:Ld)(slots:Lg)(nx:Nat)(F:T Value)(A:AH)(K:KF):Prop:=
 match sV m F slots with
 | some r=>(match Cb ws m A m with
   | some s=>(match ofL r.2 .leaf with
     | some F1=>(match ofL s.2 .leaf with
       |some t1=>bif bq nx m&&baks m then HFs (r.1++s.1) (K F1 ⟨t1,nx⟩)else False
       |none=>False)
     |none=>False)
   |none=>False)
 |none=>False
theorem nN(i:GlOk E){m:Ld}(g:∀ B,B<A0.next->back m B=some B)(f:A0.next<=nx){K:KF}(h:kL ws m slots nx F A K):∃ F1 A1,K F1 A1/\Turns E A0 n F A F1 A1:=by unfold kL at h;split at h;rename_i r u;split at h;rename_i s q;split at h;rename_i F1 y;split at h;rename_i t1 l;cases b:(bq nx m&&baks m);rw[b]at h;exact h.elim;rw[b]at h;simp only[f']at b;obtain⟨j,k⟩:=gz h;refine⟨F1,⟨t1,nx⟩,k,Turns.renK i m r.2 s.2 nx g f b.1 y l (lW u λx a=>j x (by simp[a])) (qE q (λx a=>?_) λx a=>j x (by simp[a]))⟩;have:=Hc.1 b.2 x a;unfold bak at this;split at this;rename_i C z;rw[z,Gy this];cases this;exact h.elim;exact h.elim;exact h.elim;exact h.elim
theorem lV(a:GlOk E)(f:A0.next=0){m:Ld}{K:KF}(h:kL ws m slots nx F A K):∃ F1 A1,K F1 A1/\Turns E A0 n F A F1 A1:=
 nN a (λB b=>by omega) (by omega) h
def idK(m:Ld)(k:Nat):Bool:=Nat.rec (motive:=λ_=>Bool) true (λi ih=>(match back m i with|some B=>Nat.beq B i|none=>false)&&ih) k
theorem Bi{m:Ld}:∀ {k:Nat},idK m k=true->∀ B,B<k->back m B=some B
 |0,_,B,hB=>by omega
 | k+1,h,B,hB=>by
  have h:((match back m k with|some B=>Nat.beq B k|none=>false)&&idK m k)=true:=h;rw[f']at h;rcases Hg B k with q|q;exact Bi h.2 B q;obtain rfl:B=k:=by omega
  have a:=h.1;split at a;rename_i C b;rw[b,Gy a];cases a
def nL(k:Nat)(ws:Lg)(m:Ld)(slots:Lg)(nx:Nat)(F:T Value)(A:AH)(K:KF):Prop:=bif idK m k&&Nat.ble k nx then kL ws m slots nx F A K else False
theorem jF(b:GlOk E){m:Ld}{K:KF}(h:nL A0.next ws m slots nx F A K):∃ F1 A1,K F1 A1/\Turns E A0 n F A F1 A1:=by
 unfold nL at h;cases a:idK m A0.next&&Nat.ble A0.next nx
 rw[a]at h;exact h.elim;rw[a]at h;rw[f',GO]at a;exact nN b (Bi a.1) a.2 h
def tellK(m:Ld)(slots:Lg)(nx:Nat)(F:T Value)(A:AH)(K:KF):Prop:=kL [] m slots nx F A K
def kH(f:Value->Lg)(l:Lh):Lg:=List.rec (motive:=λ_=>Lg) [] (λv _ ih=>f v++ih) l
def blks:Nat->Value->Lg
 |0,_=>[]
 | k+1,v=>match v with
   | .pointer (some ⟨B,_,_⟩)=>[B]
   | .slice (some ⟨B,_,_⟩) _ _=>[B]
   | .map (some B)=>[B]
   | .agg ⟨xs⟩=>kH (blks k) xs
   | .tuple ⟨xs⟩=>kH (blks k) xs
   | .iface _ x=>blks k x
   | .func (.func _) ⟨xs⟩ ⟨ys⟩=>kH (blks k) xs++kH (blks k) ys
   |_=>[]
def s9(ws:Lg)(A:AH)(k:Nat):Lg->Lg->Lg:=
 Nat.rec (motive:=λ_=>Lg->Lg->Lg) (λ_ seen=>seen) (λ_ ih todo seen=>match todo with
  | []=>seen
  | B::r=>bif inL B seen then ih r seen else(match A.t.get B with
    |some (.cells c e)=>bif inL e ws then ih r (seen++[B])else ih (r++kH (blks 8) c) (seen++[B])
    |some (.ro c e)=>bif inL e ws then ih r (seen++[B])else ih (r++kH (blks 8) c) (seen++[B])
    |some (.arr _ c _ e)=>ih (r++kH (blks 8) c) (seen++[B])
    |_=>ih r (seen++[B]))) k
def numb(l:Lg):Nat->Ld:=List.rec (motive:=λ_=>Nat->Ld) (λ_=>[]) (λB _ ih k=>(k,B)::ih (k+1)) l
def slotB(F:T Value)(l:Lg):Lg:=List.rec (motive:=λ_=>Lg) [] (λt _ ih=>(match F.get t with|some v=>blks 8 v|none=>[])++ih) l
def autoM(ws slots:Lg)(F:T Value)(A:AH):Ld:=numb (s9 ws A 64 (slotB F slots) []) 0
def lenM(m:Ld):Nat:=List.rec (motive:=λ_=>Nat) 0 (λ_ _ ih=>ih+1) m
def yh(ws slots:Lg)(F:T Value)(A:AH)(K:KF):Prop:=kL ws (autoM ws slots F A) slots (lenM (autoM ws slots F A)) F A K
def idsL(k:Nat):Lg:=Nat.rec (motive:=λ_=>Lg) [] (λi ih=>ih++[i]) k
def Bz(k:Nat)(ws slots:Lg)(F:T Value)(A:AH):Ld:=numb (s9 ws A 64 (idsL k++slotB F slots) []) 0
def um(k:Nat)(ws slots:Lg)(F:T Value)(A:AH)(K:KF):Prop:=nL k ws (Bz k ws slots F A) slots (lenM (Bz k ws slots F A)) F A K
def blkAt(p:NPos)(F:T Value)(A:AH):Lk:=
 match p with
 | .made _=>none
 | .cutS _=>none
 | .cutC _ _ _=>none
 | .nilC _ _ _=>none
 | .emp _=>none
 | .groC _ _ _=>none
 | .slot t=>(match F.get t with
   |some (.slice (some ⟨B,_,none⟩) _ _)=>some B
   |_=>none)
 | .cell t j=>(match F.get t with
   | some (.pointer (some ⟨B,0,none⟩))=>(match A.t.get B with
     | some (.cells c _)=>(match nth c j with
       |some (.slice (some ⟨B2,_,none⟩) _ _)=>some B2
       |_=>none)
     | some (.arr _ rest nn _)=>(match nth rest (j-nn)with
       |some (.slice (some ⟨B2,_,none⟩) _ _)=>some B2
       |_=>none)
     |_=>none)
   |_=>none)
def frzK(E:Env)(l:List NPos)(F:T Value):AH->(AH->Prop)->Prop:=
 List.rec (motive:=λ_=>AH->(AH->Prop)->Prop) (λA K=>K A) (λp _ ih A K=>match blkAt p F A with
  |some B=>frzT E B 16 A (λA1=>ih A1 K)
  |none=>ih A K) l
theorem p6{E:Env}(f:E.Ok){F:T Value}:∀ {l:List NPos}{A:AH}{K:AH->Prop},frzK E l F A K->∃ A',K A'/\∀ (σ:Sig) (w:World),Rel E.P σ A w->∃ σ',Rel E.P σ' A' w/\Ext σ A w σ' A' w
 | [],A,K,h=>⟨A,h,fun σ w R=>⟨σ,R,Ext.refl _ _ _⟩⟩
 | p::l,A,K,h=>by
  have h:(match blkAt p F A with
   |some B=>frzT E B 16 A (λg=>frzK E l F g K)
   |none=>frzK E l F A K):=h
  split at h;obtain⟨g,h,j⟩:=wI f h;obtain⟨z,h,i⟩:=p6 f h;refine⟨z,h,fun σ w R=>?_⟩;obtain⟨b,y,r⟩:=j σ w R;obtain⟨a,u,q⟩:=i b w y;exact⟨a,u,r.trans q⟩;exact p6 f h
theorem lz(j:E.Ok){l:List NPos}{K:AH->Prop}(h:frzK E l F A K):∃ A',K A'/\Turns E A0 n F A F A':=by obtain⟨A',h,u⟩:=p6 j h;refine⟨A',h,fun i z a w ⟨σ,r,R,q,X⟩=>?_⟩;obtain⟨f,y,g⟩:=u σ w R;have b:=Ext.sub R g;exact⟨f,r.mono b,y,q.sub b,X.trans g⟩
def ul(E:Env)(ns:List (NPos×TypeId×Nat))(zs:List NPos)(ws slots:Lg)(F:T Value)(A:AH)(K:KF):Prop:=nilK E ns F A (λF1 A1=>frzK E zs F1 A1 (λA2=>yh ws slots F1 A2 K))
def eL(k:Nat)(E:Env)(ns:List (NPos×TypeId×Nat))(zs:List NPos)(ws slots:Lg)(F:T Value)(A:AH)(K:KF):Prop:=nilK E ns F A (λF1 A1=>frzK E zs F1 A1 (λA2=>um k ws slots F1 A2 K))
theorem cQ(b:E.Ok)(a:GlOk E){ns:List (NPos×TypeId×Nat)}{zs:List NPos}{K:KF}(h:eL A0.next E ns zs ws slots F A K):∃ F1 A1,K F1 A1/\Turns E A0 n F A F1 A1:=by obtain⟨F1,A1,h,t1⟩:=mL (E:=E) b (A0:=A0) (n:=n) h;obtain⟨j,h,t2⟩:=lz b (A0:=A0) (n:=n) h;obtain⟨g,i,h,f⟩:=jF a (A0:=A0) (n:=n) h;exact⟨g,i,h,t1.trans (t2.trans f)⟩
theorem qF(a:GlOk E)(b:A0.next=0){K:KF}(h:yh ws slots F A K):∃ F1 A1,K F1 A1/\Turns E A0 n F A F1 A1:=lV a b h
theorem qD(b:E.Ok)(a:GlOk E)(g:A0.next=0){ns:List (NPos×TypeId×Nat)}{zs:List NPos}{K:KF}(h:ul E ns zs ws slots F A K):∃ F1 A1,K F1 A1/\Turns E A0 n F A F1 A1:=by obtain⟨F1,A1,h,t1⟩:=mL (E:=E) b (A0:=A0) (n:=n) h;obtain⟨l,h,t2⟩:=lz b (A0:=A0) (n:=n) h;obtain⟨i,j,h,f⟩:=qF a g (n:=n) h;exact⟨i,j,h,t1.trans (t2.trans f)⟩
inductive LM where
 |unroll (m:Nat)
 |cutW (ws:Lg) (m:Ld) (slots:Lg) (nx:Nat)
 |auto (ws slots:Lg)
 |autoN (ns:List (NPos×TypeId×Nat)) (zs:List NPos) (ws slots:Lg)
 |raw
def LM.cut(m:Ld)(slots:Lg)(nx:Nat):LM:=.cutW [] m slots nx
structure SX where
 E:Env
 tab:Tab
 el:El
 lm:Nat->LM
structure SX.Ok (X:SX):Prop where
 ok:X.E.Ok
 sym:X.E.sym=true
 gl:GlOk X.E
 tab:TabOk X.E X.tab
def keyOf(c:Code):Nat:=
 Code.rec (motive:=λ_=>Nat) 0 (λid _ _=>id) (λ_ _ x y=>bif Nat.beq x 0 then y else x) (λ_ _ _ x y=>bif Nat.beq x 0 then y else x) (λ_ _ x=>x) (λ_ x=>x) (λ_ _ _ _ x y=>bif Nat.beq x 0 then y else x) (λ_=>0) (λ_ x=>x) (λ_=>0) (λ_=>0) 0 (λ_=>0) c
abbrev KX:=Ex->T Value->AH->Prop
abbrev SC:=T Value->AH->KX->Prop
def sxBr(E:Env)(F:T Value)(b:Operand)(x y:T Value->Prop):Prop:=match b with
 | .tmp t=>(match F.get t with|some (.bool v)=>Sp v (setK F t (.bool true) x) (setK F t (.bool false) y)|_=>Stop b)
 |b=>(match ev E F b with|some (.bool v)=>Sp v (x F) (y F)|_=>Stop b)
theorem Cn{b:Operand}{x y:T Value->Prop}(h:sxBr E F b x y):∃ t,ev E F b=some (.bool t)/\((t=true/\x F)∨(t=false/\y F)):=by unfold sxBr at h;split at h;rename_i t;split at h;rename_i v a;refine⟨v,a,?_⟩;rcases h.cases with⟨f,h⟩|⟨f,h⟩;obtain⟨i,g,h⟩:=me h;rw[f]at a;rw[cC _ _ _ _ _ a g]at h;exact .inl ⟨f,h⟩;obtain⟨i,g,h⟩:=me h;rw[f]at a;rw[cC _ _ _ _ _ a g]at h;exact .inr ⟨f,h⟩;exact h.elim;split at h;rename_i v a;exact⟨v,a,h.cases⟩;exact h.elim
def qG(b:SC)(m:Nat)(K:KX):T Value->AH->Prop:=Nat.rec (motive:=λ_=>T Value->AH->Prop) (λ_ _=>False) (λ_ ih F A=>b F A (Then ih K)) m
def uq(X:SX)(A0:AH)(n:Nat)(body:Code)(b:SC):SC:=λF A K=>
 match X.lm (keyOf body)with
 | .unroll m=>qG b m K F A
 | .cutW ws m slots nx=>bif Nat.beq A0.next 0 then kL ws m slots nx F A (λF1 A1=>Leaf (W X.E A0 n (.loop body) K F1 A1))else nL A0.next ws m slots nx F A (λF1 A1=>Leaf (W X.E A0 n (.loop body) K F1 A1))
 | .auto ws slots=>bif Nat.beq A0.next 0 then yh ws slots F A (λF1 A1=>Leaf (W X.E A0 n (.loop body) K F1 A1))else um A0.next ws slots F A (λF1 A1=>Leaf (W X.E A0 n (.loop body) K F1 A1))
 | .autoN ns zs ws slots=>bif Nat.beq A0.next 0 then ul X.E ns zs ws slots F A (λF1 A1=>Leaf (W X.E A0 n (.loop body) K F1 A1))else eL A0.next X.E ns zs ws slots F A (λF1 A1=>Leaf (W X.E A0 n (.loop body) K F1 A1))
 | .raw=>Leaf (W X.E A0 n (.loop body) K F A)
def lX(X:SX)(inl:Inl)(n:Nat)(ops:Array Oper)(draw:Bool):SC:=λF A K=>
 match draw with
 |false=>sxOps X.tab inl X.E X.el ops.toList n ops.toList F A (K .normal)
 |true=>sxReg X.tab X.E X.el ops ops.toList ops.toList.length n F A (K .normal)
def sxC(X:SX)(inl:Inl)(A0:AH)(n:Nat)(c:Code):SC:=
 Code.rec (motive:=λ_=>SC)
  (λF A K=>K .normal F A)
  (λ_ ops draw=>lX X inl n ops draw)
  (λ_ _ x y F A K=>x F A (Then (λF' A'=>y F' A' K) K))
  (λb _ _ x y F A K=>sxBr X.E F b (λF=>x F A K) (λF=>y F A K))
  (λid _ x F A K=>x F A (Blk id K))
  (λbody x=>uq X A0 n body x)
  (λ_ _ _ _ _ _ _ _ _=>False)
  (λid F A K=>K (.exit id) F A)
  (λ_ x F A K=>x F A K)
  (λ_ F A K=>K .normal F A)
  (λ_ _ _ _=>False)
  (λF A K=>K .ret F A)
  (λ_ _ _ _=>False) c
theorem jJ{E:Env}{A0:AH}{n:Nat}{a:Code}{b:SC}(f:∀ F A K,b F A K->W E A0 n a K F A){K:KX}:∀ (m:Nat) (F:T Value) (A:AH),qG b m K F A->WR E A0 n a K m F A
 |0,F,A,h=>h.elim
 | m+1,F,A,h=>by
  refine WR.next ((f F A _ h).mono λg i A' q=>?_)
  cases g with
  |normal=>exact jJ f m i A' q
  |exit id=>exact q
  |ret=>exact q
theorem As{X:SX}(j:X.Ok){inl:Inl}(R:x6 X.E inl)(c:Code):∀ F A K,sxC X inl A0 n c F A K->W X.E A0 n c K F A:=by
 induction c with
 |skip=>intro F A K h;exact W.skip h
 |region id G z=>intro F A K h;have h:lX X inl n G z F A K:=h;unfold lX at h;cases z;exact W.sxOps j.ok j.sym j.tab R h;exact W.sxReg j.ok j.sym j.tab h
 | seq a b L J=>
  intro F A K h;have h:sxC X inl A0 n a F A (Then (λM A'=>sxC X inl A0 n b M A' K) K):=h;refine W.seq ((L F A _ h).mono λS M A' q=>?_);cases S with
  |normal=>exact J M A' K q
  |exit id=>exact q
  |ret=>exact q
 |cond b x y I H=>intro F A K h;have h:sxBr X.E F b (λF=>sxC X inl A0 n x F A K) (λF=>sxC X inl A0 n y F A K):=h;obtain⟨t,r,h⟩:=Cn h;refine W.cond r (λe=>?_) (λe=>?_);rcases h with⟨_,h⟩|⟨D,_⟩;exact I F A K h;rw[e]at D;cases D;rcases h with⟨D,_⟩|⟨_,h⟩;rw[e]at D;cases D;exact H F A K h
 |block id b C=>intro F A K h;exact W.block (C F A _ h)
 | loop b C=>
  intro F A K h;have h:uq X A0 n b (sxC X inl A0 n b) F A K:=h;unfold uq at h;split at h;rename_i m _;exact W.rounds m (jJ (λF A K h=>C F A K h) m F A h);rename_i ws m slots nx _;cases u:Nat.beq A0.next 0
  rw[u]at h;have h:nL A0.next ws m slots nx F A (λg i=>Leaf (W X.E A0 n (.loop b) K g i)):=h
  obtain⟨g,i,k,r⟩:=jF (E:=X.E) j.gl (A0:=A0) (n:=n) h;exact W.turns r k.get;rw[u]at h;have h:kL ws m slots nx F A (λg i=>Leaf (W X.E A0 n (.loop b) K g i)):=h;obtain⟨g,i,k,r⟩:=lV (E:=X.E) j.gl (Gy u) (n:=n) h;exact W.turns r k.get;rename_i ws slots _;cases u:Nat.beq A0.next 0
  rw[u]at h;have h:um A0.next ws slots F A (λg i=>Leaf (W X.E A0 n (.loop b) K g i)):=h
  obtain⟨g,i,k,r⟩:=jF (E:=X.E) j.gl (A0:=A0) (n:=n) h;exact W.turns r k.get;rw[u]at h;have h:yh ws slots F A (λg i=>Leaf (W X.E A0 n (.loop b) K g i)):=h;obtain⟨g,i,k,r⟩:=qF (E:=X.E) j.gl (Gy u) (n:=n) h;exact W.turns r k.get;rename_i Q O ws slots _;cases u:Nat.beq A0.next 0
  rw[u]at h;have h:eL A0.next X.E Q O ws slots F A (λg i=>Leaf (W X.E A0 n (.loop b) K g i)):=h
  obtain⟨g,i,k,r⟩:=cQ (E:=X.E) j.ok j.gl (A0:=A0) (n:=n) h;exact W.turns r k.get;rw[u]at h;have h:ul X.E Q O ws slots F A (λg i=>Leaf (W X.E A0 n (.loop b) K g i)):=h;obtain⟨g,i,k,r⟩:=qD (E:=X.E) j.ok j.gl (Gy u) (n:=n) h;exact W.turns r k.get;exact h.get
 |rangeFunc f U a b=>intro F A K h;exact False.elim h
 |exit id=>intro F A K h;exact W.exit h
 |scope b C=>intro F A K h;exact W.scope (C F A K h)
 |label l=>intro F A K h;exact W.label h
 |goto l=>intro F A K h;exact False.elim h
 |ret=>intro F A K h;exact W.ret h
 |refuse s=>intro F A K h;exact False.elim h
def finK(E:Env)(rs:List ResultVar)(K:KV):KX:=λex F A=>
 match ex with
 | .exit _=>False
 |_=>(match cD E A F rs with|some v=>K v A|none=>False)
theorem gq{K:KV}{b:Ex}(h:finK E fn.results.toList K b F A):Fin E fn K b F A:=by
 cases b with
 |exit id=>exact h.elim
 |normal=>have h:(match cD E A F fn.results.toList with|some v=>K v A|none=>False):=h;split at h;rename_i v a;exact .normal a h;exact h.elim
 |ret=>have h:(match cD E A F fn.results.toList with|some v=>K v A|none=>False):=h;split at h;rename_i v a;exact .ret a h;exact h.elim
def bodyK(X:SX)(inl:Inl)(A0:AH)(fn:Func)(c:Code)(args:Lh)(K:KV):Prop:=
 match b9 args 0 .leaf with
 |some F=>bif Nat.ble args.length fn.ntmps then sxC X inl A0 fn.ntmps c F A0 (finK X.E fn.results.toList K)else False
 |none=>False
def inl1(X:SX)(ih:Inl):Inl:=λfn args A K=>match fn.body with
 |some c=>bodyK ⟨X.E,X.tab,X.el,λ_=>.unroll 12⟩ ih A fn c args K
 |none=>False
def inlN(X:SX)(d:Nat):Inl:=Nat.rec (motive:=λ_=>Inl) (λ_ _ _ _=>False) (λ_ ih=>inl1 X ih) d
theorem v6{X:SX}(b:X.Ok):∀ d,x6 X.E (inlN X d)
 |0=>λg fn _ a A K h=>by exact False.elim h
 |d+1=>λg fn i a A K h σ w r R u C=>by have h:inl1 X (inlN X d) fn a A K:=h;unfold inl1 at h;split at h;rename_i c z;unfold bodyK at h;split at h;rename_i F G;cases j:Nat.ble a.length fn.ntmps;rw[j]at h;exact h.elim;rw[j]at h;have l:SX.Ok ⟨X.E,X.tab,X.el,λ_=>.unroll 12⟩:=⟨b.ok,b.sym,b.gl,b.tab⟩;have D:=(As l (v6 b d) c F A _ h).mono (R:=Fin X.E fn K) λQ S A' q=>gq q;refine(km b.ok i z G (H9 j) D R u C).mono λe O y=>?_;obtain⟨v,v',A',f,M,L,J,I,H⟩:=y;exact⟨v,A',v',f,M,L,J,I,H⟩;exact h.elim;exact h.elim
def sx(X:SX)(d:Nat)(A0:AH)(n:Nat)(c:Code):SC:=sxC X (inlN X d) A0 n c
theorem jI{X:SX}(a:X.Ok){c:Code}{K:KX}(h:sx X d A0 n c F A K):W X.E A0 n c K F A:=As a (v6 a d) c F A K h
def qZ:Nat->Value->Bool
 |0,_=>false
 | k+1,v=>match v with
   | .agg ⟨xs⟩=>xs.all (qZ k)
   | .tuple ⟨xs⟩=>xs.all (qZ k)
   | .iface _ x=>qZ k x
   | .func (.yield _) _ _=>true
   |v=>scal v
def zj(Q:Value->Prop)(QA:KV):KV:=λv A=>match qZ 8 v with|true=>Q v|false=>QA v A
theorem zi{Q:Value->Prop}{a:KV}(h:zj Q a v A):Q v∨a v A:=by unfold zj at h;split at h;exact .inl h;exact .inr h
def au(fn:Func):Code:=match fn.body with|some c=>c|none=>.skip
def aE:Code->Code
 | .loop b=>b
 |c=>c
def iX:Code->Bool
 | .loop _=>true
 |_=>false
theorem j7{c:Code}(h:iX c=true):c=.loop (aE c):=by cases c<;>first|rfl|(simp[iX]at h)
def subC:Lg->Code->Code
 | [],c=>c
 | i::p,c=>match c with
   | .seq a b=>bif Nat.beq i 0 then subC p a else subC p b
   | .cond _ a b=>bif Nat.beq i 0 then subC p a else subC p b
   | .block _ b=>subC p b
   | .scope b=>subC p b
   | .loop b=>subC p b
   |c=>c
def ctxK(X:SX)(d:Nat)(n:Nat):Lg->Code->KX->KX
 | [],_,K=>K
 | i::p,c,K=>match c with
   | .seq a b=>bif Nat.beq i 0 then ctxK X d n p a (Then (λF A=>sx X d ⟨.leaf,0⟩ n b F A K) K)else ctxK X d n p b K
   | .cond _ a b=>bif Nat.beq i 0 then ctxK X d n p a K else ctxK X d n p b K
   | .block id b=>ctxK X d n p b (Blk id K)
   | .scope b=>ctxK X d n p b K
   |_=>K
def LAt(X:SX)(d n:Nat)(c:Code)(p:Lg)(K:KX)(F:T Value)(A:AH):Prop:=Leaf (W X.E ⟨.leaf,0⟩ n (subC p c) (ctxK X d n p c K) F A)
def stepK(X:SX)(d:Nat)(fn:Func)(p:Lg)(K:KV)(m:Ld)(slots:Lg)(nx:Nat)(again:KF):KX:=Then (λF' A'=>tellK m slots nx F' A' again) (ctxK X d fn.ntmps p (au fn) (finK X.E fn.results.toList K))
def sxStep(X:SX)(d:Nat)(fn:Func)(p:Lg)(K:KV)(m:Ld)(slots:Lg)(nx:Nat)(again:KF)(F:T Value)(A:AH):Prop:=sx X d ⟨.leaf,0⟩ fn.ntmps (aE (subC p (au fn))) F A (stepK X d fn p K m slots nx again)
theorem LAt.intro{X:SX}(g:X.Ok){c:Code}{p:Lg}{K:KX}(ws:Lg)(m:Ld)(slots:Lg)(nx:Nat)(i:iX (subC p c)=true)(I:Nat->T Value->AH->Prop)
 (b:∀ k F A,I k F A->sx X d ⟨.leaf,0⟩ n (aE (subC p c)) F A (Then (λf A'=>kL ws m slots nx f A' (λF1 A1=>∃ a,a<k/\I a F1 A1)) (ctxK X d n p c K))) (h:I k F A):LAt X d n c p K F A:=by
 refine .mk ?_;rw[j7 i];refine W.loopT I (λk F A j=>?_) h Turns.refl;refine(jI g (b k F A j)).mono λy f A' q=>?_;cases y with
 |normal=>have q:kL ws m slots nx f A' (λF1 A1=>∃ a,a<k/\I a F1 A1):=q;obtain⟨F1,A1,⟨a,u,r⟩,l⟩:=lV (E:=X.E) g.gl (A0:=⟨.leaf,0⟩) rfl (n:=n) q;exact⟨a,F1,A1,u,r,l⟩
 |exit id=>exact q
 |ret=>exact q
theorem LAt.step{X:SX}(g:X.Ok){d:Nat}{fn:Func}{p:Lg}{K:KV}{F:T Value}{A:AH}(m:Ld)(slots:Lg)(nx:Nat)(f:iX (subC p (au fn))=true)(I:Nat->T Value->AH->Prop)
 (a:∀ k F A,I k F A->sxStep X d fn p K m slots nx (λF1 A1=>∃ b,b<k/\I b F1 A1) F A) {k:Nat}(h:I k F A):LAt X d fn.ntmps (au fn) p (finK X.E fn.results.toList K) F A:=
 LAt.intro g [] m slots nx f I a h
def ptr0:Value:=.pointer (some ⟨0,0,none⟩)
theorem de(q:E.Ok)(g:GlOk E){f:FuncId}(i:E.fn f=some fn){b:Lh->Ll}{a:Lh->Lj}(h:∀ args v,a args=some v->PH (b args)->(∀x∈args,HF x)/\Walk E fn args v):
 ∀args A p v A',bw b a args A=some (p,v,A')->PH p->CallAt E f args A v A':=
 gF λargs v j l A=>qt q g i (h args v j l).1 (h args v j l).2 A
end
end Go.AM
namespace Go.MK
open Go Go.AM
noncomputable section
abbrev _root_.Go.IS:=@List.cons_append
abbrev _root_.Go.GP:=@List.length_set
variable {K V:Type}[DecidableEq K]
def aget:List (K×V)->K->Option V
 | [],_=>none
 |x::m,k=>if x.1=k then some x.2 else aget m k
def aset:List (K×V)->K->V->List (K×V)
 | [],k,v=>[(k,v)]
 |x::m,k,v=>if x.1=k then(k,v)::m else x::aset m k v
def aidx:List (K×V)->K->Nat->Option (Nat×V)
 | [],_,_=>none
 |x::m,k,i=>if x.1=k then some (i,x.2)else aidx m k (i+1)
variable {E:Env}{k:K}{kv:K->Value}{et kt t:TypeId}{z:Value}
def aQ(kv:K->Value)(vv:V->Value):List (K×V)->Nat->Lc
 | [],_=>[]
 |x::m,i=>(kv x.1,vv x.2,i)::aQ kv vv m (i+1)
def ents(kv:K->Value)(vv:V->Value)(m:List (K×V)):Lc:=aQ kv vv m 0
def inv(dk:Value->K)(dv:Value->V)(es:Lc):List (K×V):=es.map λx=>(dk x.1,dv x.2.1)
theorem mR{a:V->Value}{d:Value->K}{c:Value->V}(g:∀ k,d (kv k)=k)(f:∀ v,c (a v)=v)(m:List (K×V)):inv d c (ents kv a m)=m:=by
 have b:∀ (m:List (K×V)) (i:Nat),(aQ kv a m i).map (λx=>(d x.1,c x.2.1))=m:=by
  intro m;induction m with
  |nil=>intro i;rfl
  |cons x m e=>intro i;simp only[aQ,Hj,g,f,e]
 exact b m 0
theorem qA{b:V->Value}(h:∀ v,HF (b v))(m:List (K×V)):HF (.agg ⟨(ents kv b m).map λx=>x.2.1⟩):=.agg λx a=>by
 have c:∀ (m:List (K×V)) (i:Nat),∀x∈(aQ kv b m i).map (λx=>x.2.1),HF x:=by
  intro m;induction m with
  |nil=>intro i x a;simp[aQ]at a
  |cons y m d=>intro i x a;simp only[aQ,Hj,GI]at a;rcases a with rfl|a;exact h _;exact d _ x a
 exact c m 0 x a
theorem xT{m:List (K×V)}:∀ {i:Nat},aidx m k i=none->aget m k=none:=by
 induction m with
 |nil=>intro i _;rfl
 |cons x m b=>intro i h;unfold aidx at h;unfold aget;split at h;cases h;rename_i a;rw[D' a];exact b h
theorem ig{m:List (K×V)}:∀ {i j:Nat}{v:V},aidx m k i=some (j,v)->aget m k=some v/\∃ q,j=i+q/\m[q]? =some (k,v):=by
 induction m with
 |nil=>intro i j v h;cases h
 |cons x m c=>intro i j v h;unfold aidx at h;unfold aget;split at h;rename_i b;cases h;rw[Gw b];exact⟨rfl,0,rfl,by simp[<-b]⟩;rename_i a;rw[D' a];obtain⟨e,q,f,d⟩:=c h;exact⟨e,q+1,by omega,by simpa using d⟩
theorem xL{m:List (K×V)}{v:V}:∀ {i:Nat},aidx m k i=none->aset m k v=m++[(k,v)]:=by
 induction m with
 |nil=>intro i _;rfl
 |cons x m b=>intro i h;unfold aidx at h;unfold aset;split at h;cases h;rename_i a;rw[D' a,b h];rfl
theorem xK{m:List (K×V)}{v:V}:∀ {i j:Nat}{u:V},aidx m k i=some (j,u)->aset m k v=m.set (j-i) (k,v):=by
 induction m with
 |nil=>intro i j u h;cases h
 |cons x m b=>intro i j u h;obtain⟨_,q,f,_⟩:=ig h;unfold aidx at h;unfold aset;split at h;rename_i d;simp only[osI,GC]at h;rw[Gw d,<-h.1];simp;rename_i a;obtain⟨_,e,c,_⟩:=ig h;rw[D' a,b h,show j-i=(j-(i+1))+1 by omega,List.set_cons_succ]
theorem fe(kv:K->Value)(a:V->Value):∀ (m l:List (K×V)) (i:Nat),aQ kv a (m++l) i=aQ kv a m i++aQ kv a l (i+m.length)
 | [],l,i=>by simp[aQ]
 |x::m,l,i=>by simp only[IS,aQ,fe kv a m l,GY];rw[show i+1+m.length=i+(m.length+1)by omega]
theorem i5(kv:K->Value)(a:V->Value):∀ (m:List (K×V)) (i q:Nat) (x:K×V),m[q]? =some x->(aQ kv a m i)[q]? =some (kv x.1,a x.2,i+q)
 | [],i,q,x,h=>by simp at h
 |y::m,i,0,x,h=>by simp at h;subst h;rfl
 |y::m,i,q+1,x,h=>by have:=i5 kv a m (i+1) q x (by simpa using h);simp only[aQ,Ic,this];rw[show i+1+q=i+(q+1)by omega]
theorem i4(kv:K->Value)(a:V->Value)(k:K)(v:V):∀ (m:List (K×V)) (i q:Nat),q<m.length->aQ kv a (m.set q (k,v)) i=(aQ kv a m i).set q (kv k,a v,i+q)
 | [],i,q,h=>by simp at h
 |y::m,i,0,h=>rfl
 |y::m,i,q+1,h=>by simp only[List.set_cons_succ,aQ,i4 kv a k v m (i+1) q (by simpa using h)];rw[show i+1+q=i+(q+1)by omega]
structure KeyOk (E:Env) (t kt et:TypeId) (kv:K->Value) (z:Value):Prop where
 und:AM.und E t=some (.map kt et)
 flat:∀ k,AM.flat (kv k)=true
 ok:∀ emp k,e7 E emp kt (kv k)=true
 eq:∃ kind,AM.und E kt=some kind/\((∀a b,jR kind (kv a) (kv b)=some (decide (a=b)))∨((∀a b,jR kind (kv a) (kv b)=none)/\∀ a b,oP E kt (kv a) (kv b)=some (decide (a=b))))
 bits:∀ k,Instr.sameBits 10000 (kv k) (kv k)=true
 zero:∃ i,E.ti et=some i/\i.zero=some z/\AM.flat z=true
theorem lD{kind:TypeDesc}{kv:K->Value}{c:V->Value}(h:∀ a b,jR kind (kv a) (kv b)=some (decide (a=b)))(k:K):∀ (m:List (K×V)) (b i:Nat),
 eH kind (kv k) (aQ kv c m b) i=some ((aidx m k i).map λx=>(x.1,c x.2))
 | [],b,i=>rfl
 |x::m,b,i=>by simp only[aQ,eH,h];by_cases e:x.1=k;simp[aidx,e];have d:¬ k=x.1:=λh=>e h.symm;simp only[d,It,aidx,D' e];exact lD h k m _ _
theorem iZ{E:Env}{kt:TypeId}{kv:K->Value}{c:V->Value}(h:∀ a b,oP E kt (kv a) (kv b)=some (decide (a=b)))(k:K):∀ (m:List (K×V)) (b i:Nat),
 c7 E kt (kv k) (aQ kv c m b) i=some ((aidx m k i).map λx=>(x.1,c x.2))
 | [],b,i=>rfl
 |x::m,b,i=>by simp only[aQ,c7,h];by_cases e:x.1=k;simp[aidx,e];have d:¬ k=x.1:=λh=>e h.symm;simp only[d,It,aidx,D' e];exact iZ h k m _ _
theorem lC(h:KeyOk E t kt et kv z)(b:V->Value)(k:K)(m:List (K×V)):
 iK E kt (kv k) (ents kv b m)=some ((aidx m k 0).map λx=>(x.1,b x.2)):=by
 obtain⟨a,d,e⟩:=h.eq;unfold iK ents;rw[d];simp only;rcases e with c|⟨c,f⟩;rw[lD c];cases m with
 |nil=>rfl
 |cons x m=>
 have:eH a (kv k) (aQ kv b (x::m) 0) 0=none:=by simp only[aQ,eH,c]
 rw[this];exact iZ f k (x::m) 0 0
theorem j8(h:KeyOk E t kt et kv z)(a:V->Value)(k:K)(m:List (K×V)):
 cx E t (ents kv a m) (kv k)=some (match aget m k with|some v=>(a v,true)|none=>(z,false)):=by
 obtain⟨i,e,d,c⟩:=h.zero;unfold cx;rw[h.und];simp only[h.flat,h.ok,HU,C',lC h a k m];cases b:aidx m k 0 with
 |none=>rw[xT b];simp only[Ju,e,d,c,C']
 |some x=>obtain⟨j,v⟩:=x;rw[(ig b).1];rfl
theorem lT(h:KeyOk E t kt et kv z)(a:V->Value)(k:K)(v:V)(m:List (K×V)):
 aU E t (ents kv a m) m.length (kv k) (a v)=some (ents kv a (aset m k v),(aset m k v).length):=by
 unfold aU;rw[h.und];simp only[h.flat,h.ok,HU,C',lC h a k m];cases d:aidx m k 0 with
 | none=>
  rw[xL d];simp only[Ju];have:aQ kv a (m++[(k,v)]) 0=aQ kv a m 0++[(kv k,a v,m.length)]:=by rw[fe];simp[aQ]
  simp only[ents,this,Gx,GY,Iy]
 |some x=>
 obtain⟨j,u⟩:=x;obtain⟨_,q,g,e⟩:=ig d;rw[xK d];have c:j=q:=by omega
 subst c;have f:nth (ents kv a m) j=some (kv k,a u,j):=by rw[aN];have:=i5 kv a m 0 j _ e;simpa[ents]using this
 simp only[Hx,f,h.bits,C',JO,GP];have b:j<m.length:=(GE.1 e).1;have:=i4 kv a k v m 0 j b;simp only[ents,this,H8]
end
end Go.MK
namespace Go.AM
noncomputable section
variable {A A0 A1 A2 N:AH}{o o1:AObj}{c:Code}{E:Env}{fn:Func}{m:Ld}{ws:Lg}{args els tl:Lh}{p:Li}{B B2 d k k1 n nx:Nat}{ρ ρ' ρf:Nat->Lk}{g:Nat->Option AObj}{NL:Nat->Prop}{P:Program}{X:SX}{σ:Sig}{t1 tA:T AObj}{F:T Value}{e:TypeId}{ar:TypeId->Lk}{v v' v2:Value}{w w':World}
def kR(X:SX)(d:Nat)(n:Nat)(A0:AH):Lg->Code->KX->KX
 | [],_,K=>K
 | i::p,c,K=>match c with
   | .seq a b=>bif Nat.beq i 0 then kR X d n A0 p a (Then (λF A=>sx X d A0 n b F A K) K)else kR X d n A0 p b K
   | .cond _ a b=>bif Nat.beq i 0 then kR X d n A0 p a K else kR X d n A0 p b K
   | .block id b=>kR X d n A0 p b (Blk id K)
   | .scope b=>kR X d n A0 p b K
   |_=>K
def LAtZ(X:SX)(d n:Nat)(A0:AH)(c:Code)(p:Lg)(K:KX)(F:T Value)(A:AH):Prop:=Leaf (W X.E A0 n (subC p c) (kR X d n A0 p c K) F A)
def stepZ(X:SX)(d n:Nat)(A0:AH)(c:Code)(p:Lg)(K:KX)(ns:List (NPos×TypeId×Nat))(zs:List NPos)(ws slots:Lg)(again:KF):KX:=Then (λF' A'=>ul X.E ns zs ws slots F' A' again) (kR X d n A0 p c K)
def Ch(X:SX)(d n:Nat)(A0:AH)(c:Code)(p:Lg)(K:KX)(ns:List (NPos×TypeId×Nat))(zs:List NPos)(ws slots:Lg)(again:KF)(F:T Value)(A:AH):Prop:=sx X d A0 n (aE (subC p c)) F A (stepZ X d n A0 c p K ns zs ws slots again)
theorem LAtZ.step{X:SX}(f:X.Ok){d n:Nat}{A0:AH}(t:A0.next=0){c:Code}{p:Lg}{K:KX}{F:T Value}{A:AH}(ns:List (NPos×TypeId×Nat))(zs:List NPos)(ws slots:Lg)(i:iX (subC p c)=true)(I:Nat->T Value->AH->Prop)
 (b:∀ k F A,I k F A->Ch X d n A0 c p K ns zs ws slots (λF1 A1=>∃ a,a<k/\I a F1 A1) F A) {k:Nat}(h:I k F A):LAtZ X d n A0 c p K F A:=by
 refine .mk ?_;rw[j7 i];refine W.loopT I (λk F A j=>?_) h Turns.refl;refine(jI f (b k F A j)).mono λu x y q=>?_;cases u with
 |normal=>have q:ul X.E ns zs ws slots x y (λF1 A1=>∃ a,a<k/\I a F1 A1):=q;obtain⟨F1,A1,⟨a,s,r⟩,l⟩:=qD (E:=X.E) f.ok f.gl (A0:=A0) t (n:=n) q;exact⟨a,F1,A1,s,r,l⟩
 |exit id=>exact q
 |ret=>exact q
def stepF(X:SX)(d n:Nat)(A0:AH)(c:Code)(p:Lg)(K:KX)(ns:List (NPos×TypeId×Nat))(zs:List NPos)(ws slots:Lg)(again:KF):KX:=Then (λF' A'=>eL A0.next X.E ns zs ws slots F' A' again) (kR X d n A0 p c K)
def bh(X:SX)(d n:Nat)(A0:AH)(c:Code)(p:Lg)(K:KX)(ns:List (NPos×TypeId×Nat))(zs:List NPos)(ws slots:Lg)(again:KF)(F:T Value)(A:AH):Prop:=sx X d A0 n (aE (subC p c)) F A (stepF X d n A0 c p K ns zs ws slots again)
theorem LAtZ.stepF(f:X.Ok){p:Lg}{K:KX}(ns:List (NPos×TypeId×Nat))(zs:List NPos)(ws slots:Lg)(i:iX (subC p c)=true)(I:Nat->T Value->AH->Prop)
 (b:∀ k F A,I k F A->bh X d n A0 c p K ns zs ws slots (λF1 A1=>∃ a,a<k/\I a F1 A1) F A) (h:I k F A):LAtZ X d n A0 c p K F A:=by
 refine .mk ?_;rw[j7 i];refine W.loopT I (λk F A j=>?_) h Turns.refl;refine(jI f (b k F A j)).mono λt u x q=>?_;cases t with
 | normal=>
  have q:eL A0.next X.E ns zs ws slots u x (λF1 A1=>∃ a,a<k/\I a F1 A1):=q
  obtain⟨F1,A1,⟨a,s,r⟩,l⟩:=cQ (E:=X.E) f.ok f.gl (A0:=A0) (n:=n) q;exact⟨a,F1,A1,s,r,l⟩
 |exit id=>exact q
 |ret=>exact q
def stepR(X:SX)(d n:Nat)(A0:AH)(c:Code)(p:Lg)(K:KX)(again:KF):KX:=Then again (kR X d n A0 p c K)
def Ci(X:SX)(d n:Nat)(A0:AH)(c:Code)(p:Lg)(K:KX)(again:KF)(F:T Value)(A:AH):Prop:=sx X d A0 n (aE (subC p c)) F A (stepR X d n A0 c p K again)
theorem LAtZ.stepR(l:X.Ok){p:Lg}{K:KX}(j:iX (subC p c)=true)(I:Nat->T Value->AH->Prop)
 (b:∀ k F A,I k F A->Ci X d n A0 c p K (λF1 A1=>∃ a,a<k/\∃ f A2,I a f A2/\Turns X.E A0 n F1 A1 f A2) F A) {F1:T Value}(h:I k F1 A1) (i:Turns X.E A0 n F A F1 A1):LAtZ X d n A0 c p K F A:=by
 refine .mk ?_;rw[j7 j];refine W.loopT I (λk F A r=>?_) h i;refine(jI l (b k F A r)).mono λx y z q=>?_;cases x with
 |normal=>obtain⟨a,u,F1,A1,t,s⟩:∃ a,a<k/\∃ f A2,I a f A2/\Turns X.E A0 n y z f A2:=q;exact⟨a,F1,A1,u,t,s⟩
 |exit id=>exact q
 |ret=>exact q
theorem lq(C:E.Ok){f:FuncId}(q:E.fn f=some fn)(i:fn.body=some c){Q:Value->AH->Prop}
 (h:b9 args 0 .leaf=some F) (hb:args.length<=fn.ntmps) (S:W E A0 fn.ntmps c (Fin E fn Q) F A) {σ0:Sig}{w0:World}{a:Lh}(R:Rel E.P σ A w) (M:Glob E σ) (O:Ext σ0 A0 w0 σ A w) (G:VRs σ args a):
 Calls E.P f ⟨a⟩ w (λe w'=>∃ v v' A' σ',e=.returned v'/\Q v A'/\VR σ' v v'/\Rel E.P σ' A' w'/\Ext σ0 A0 w0 σ' A' w'):=by
 have D:=G.length;have x:FR σ F fn.ntmps {tmps:=(⟨a⟩:Array Value)++Array.replicate (fn.ntmps-(⟨a⟩:Array Value).size) undef,defers:=[]}:=by
  refine⟨by simp;omega,λt Z b=>?_,rfl⟩;unfold slot at b;rw[dU h t]at b;simp only;rw[Hf,IY];by_cases ht:t<args.length;rw[Gw ⟨IM _,by omega⟩,JO]at b;rw[Gw (by simp;omega)];obtain⟨u,Y,V⟩:=G.get b;have:(⟨a⟩:Array Value)[t]? =some u:=by simpa using Y
  rw[this];exact V;rw[D' (by omega)]at b;cases b
 refine calls_of_wp (C.fn f fn q) i (S σ0 w0 _ w ⟨σ,x,R,M,O⟩ _ λex F' A' H w' L s=>?_);obtain⟨r,v,l,U⟩:=L;obtain⟨σ',z,y,_,K⟩:=s;obtain⟨v',J,I⟩:=iv C y z l;have j:H.defers=[]/\∃ u,(results fn H.tmps).run E.P w'=.ok u w'/\(λe w'=>∃ v v' A' σ',e=Ending.returned v'/\Q v A'/\VR σ' v v'/\Rel E.P σ' A' w'/\Ext σ0 A0 w0 σ' A' w') (.returned u) w':=⟨z.defers,v',J,v,v',A',σ',rfl,U,I,y,K⟩;rcases r with rfl|rfl<;>exact j
theorem RVs.move:∀ {l l1:Lh},RVs ρ l l1->∀ {l':Lh},VRs σ l l'->VRs (sigT ρ σ) l1 l'
 |_,_,.nil,_,.nil=>.nil
 |_,_,.cons h t,_,.cons a b=>.cons (h.move _ a) (RVs.move t b)
theorem Rel.ren(R:Rel P σ A w){O:List (Nat×AObj)}(H:bq nx m=true)(hh:ofL O .leaf=some t1)(Y:RenH m A O):Rel P (sigT (back m) σ) ⟨t1,nx⟩ w:=by
 have i:∀ {a:Nat}{o1:AObj},t1.get a=some o1->∃ B o,back m a=some B/\A.t.get B=some o/\RO (back m) o o1:=λh=>by rcases dy hh h with h|h;exact Y.mem h;simp[T.get]at h
 refine⟨?_,?_,?_,?_,R.ro,?_,λa h=>?_⟩;intro a o1 h q;obtain⟨B,o,l,j,r⟩:=i h;rcases R.obj0 B o j (by rw[<-r.here];exact q)with⟨b,d,c,L,K⟩|⟨L,K⟩;exact .inl ⟨b,d,c,dq l L,r.move K⟩;exact .inr ⟨r.nilOk.trans L,B,l,K⟩;intro B1 B2 o1 o2 V x2 l j C I G y u;obtain⟨C1,p1,U,a2,a3⟩:=i l;obtain⟨C2,Z,S,b2,b3⟩:=i j;obtain⟨D1,s,M⟩:=bR y;obtain⟨D2,Q,e2⟩:=bR u;rw[U]at s;cases s;rw[S]at Q;cases Q;exact R.inj C1 C2 p1 Z V x2 a2 b2 (by rw[<-a3.own];exact C) (by rw[<-b3.here];exact I) (λe=>by subst e;exact G (dp H U S)) M e2;intro a x z;obtain⟨B,_,j⟩:=bR z;exact R.lt B x j;intro a J;show(back m a).bind σ.f=none;cases hb:back m a with
 |none=>rfl
 |some B=>exact absurd (cB H (aX hb)) (by simp at J;omega)
 intro a o1 x h C z;obtain⟨B,o,l,j,r⟩:=i h;obtain⟨D,s,M⟩:=bR z;rw[l]at s;cases s;exact R.sep B o x j (by rw[<-r.own];exact C) M;obtain⟨B,l,j⟩:=h;refine⟨cB H (aX l),?_⟩;show(back m a).bind σ.f=none;rw[l];exact(R.nl B j).2
def gvn(σ:Sig)(m:Ld)(b:Nat):Prop:=∃ x∈m,∃y,σ x.2=some y/\y.1=b
open Classical in
theorem Rel.more{P:Program}{σ:Sig}{A:AH}{w w':World}(R:Rel P σ A w)(h:∀ b,b<w.heap.size->w'.heap[b]? =w.heap[b]?)(j:w.heap.size<=w'.heap.size):Rel P σ A w':=by refine⟨λB o q l=>?_,R.inj,λB x i=>HN (R.lt B x i) j,R.fresh,λb o f=>?_,R.sep,R.nl⟩;rcases R.obj0 B o q l with⟨b,d,c,a,r⟩|a;exact .inl ⟨b,d,c,a,by rw[h b (R.lt B _ a)];exact r⟩;exact .inr a;rw[h b (kl (R.ro b o f))];exact R.ro b o f
theorem Ext.more(h:∀ b,b<w.heap.size->w'.heap[b]? =w.heap[b]?)(j:w.heap.size<=w'.heap.size)(s:w'.os=w.os)(r:w'.tape=w.tape)(q:w'.output=w.output):Ext σ A w σ A w':=
 ⟨λ_ _=>rfl,GK _,j,λb l _=>h b l,λB o x i f a=>.inr ⟨B,o,x,i,f,a,rfl⟩,λB o x i f a=>.inr ⟨B,o,x,i,f,a,rfl⟩,s,r,q,λ_ _ h=>h,λ_ _ h=>.inl h,λ_ _=>Jb⟩
abbrev _root_.Go.Ho:=@Classical.byContradiction
abbrev _root_.Go.Jl:=@or_false
open Classical in
def sigF(σ σ2:Sig)(N:Nat)(m m2:Ld)(w:World):Sig:=
 ⟨λB=>if B<N then σ.f B else(back m2 B).bind σ2.f,λb=>if b<w.heap.size/\¬ gvn σ m b then σ.ro b else σ2.ro b,λB=>if B<N then σ.nl B else ∃j,back m2 B=some j/\σ2.nl j⟩
theorem tO{a:Sig}{u:Ld}{lh lo:List (Nat×AObj)}(R:Rel P σ A w)
 (hm:bq k m=true) (hk:∀ i,i<k->∃ B,back m i=some B) (hh:ofL lh .leaf=some t1) (rh:RenH m A lh) (a5:∀ x∈m,∃o,A.t.get x.2=some o/\o.own=true)
 (R2:Rel P a A2 w') (X:Ext (sigT (back m) σ) ⟨t1,k⟩ w a A2 w') (d7:VR a v2 v')
 (c1:bq nx u=true) (hN:A.next<=nx) (d6:∀ i B,i<k->back m i=some B->back u B=some i) (d3:∀ x∈u,x.2<k∨A.next<=x.1) (rl:RenH u A2 lo) (hv:RV (back u) v2 v)
 (d2:∀ B o,tA.get B=some o->(B,o)∈lo∨((∀x∈m,x.2≠B)/\A.t.get B=some o)):
 ∃σ',VR σ' v v'/\Rel P σ' ⟨tA,nx⟩ w'/\Ext σ A w σ' ⟨tA,nx⟩ w':=by
 have d9:∀ x∈m,x.1<k:=λx r=>cB hm (B':=x.1) (B:=x.2) r;have e0:∀ {B':Nat}{x:Nat×Nat×Nat},(sigT (back m) σ) B'=some x->∃ B,back m B'=some B/\σ B=some x:=λh=>bR h;have d0:∀ {V:Nat}{x:Nat×Nat×Nat},(sigT (back m) σ) V=some x->gvn σ m x.1:=fun {V x} h2=>by obtain⟨B,s,hs⟩:=bR h2;exact⟨_,aX s,x,hs,rfl⟩
 have a7:∀ b,b<w.heap.size->¬ gvn σ m b->w'.heap[b]? =w.heap[b]?:=λb s hn=>X.frame b s λV o x h1 h2 h3 e=>hn (e▸d0 h3);have d1:∀ b o,σ.ro b=some o->¬ gvn σ m b:=λb o h ⟨x,r,y,hy,e⟩=>by obtain⟨o',a8,a6⟩:=a5 x r;have:=R.sep x.2 o' y a8 a6 hy;rw[e,h]at this;cases this
 have U:∀ {b:Nat},gvn σ m b->∃ V o0 x0,A.t.get V=some o0/\o0.own=true/\σ V=some x0/\x0.1=b:=fun {b} ⟨x,r,y,hy,e⟩=>by obtain⟨o',a8,a6⟩:=a5 x r;exact⟨x.2,o',y,a8,a6,hy,e⟩
 have d4:∀ B o,A.t.get B=some o->o.here=true->B<A.next:=λB o h M=>by
  rcases R.obj0 B o h M with⟨b,d,c,H,_⟩|⟨_,C⟩;rcases Hg B A.next with q|q
  exact q;rw[R.fresh B q]at H;cases H;exact(R.nl B C).1
 have L:∀ j o x,A2.t.get j=some o->o.here=true->a j=some x->¬ (x.1<w.heap.size/\¬ gvn σ m x.1):=λj o x ho M r ⟨q1,Z⟩=>by rcases X.orig2 j o x ho M r with k1|⟨V,o0,x0,k1,k2,k3,k4⟩;omega;exact Z (k4▸d0 k3)
 have l:∀ B,B<A.next->(sigF σ a A.next m u w) B=σ B:=λB h=>Gw h
 have a9:∀ B,¬B<A.next->(sigF σ a A.next m u w) B=(back u B).bind a.f:=λB h=>D' h
 have Q:∀ B,B<A.next->((sigF σ a A.next m u w).nl B↔σ.nl B):=λB h=>by show(if B<A.next then σ.nl B else _)↔_;rw[Gw h]
 have c6:∀ B,¬B<A.next->((sigF σ a A.next m u w).nl B↔∃ j,back u B=some j/\a.nl j):=λB h=>by show(if B<A.next then σ.nl B else _)↔_;rw[D' h]
 have J:∀ b,b<w.heap.size/\¬ gvn σ m b->(sigF σ a A.next m u w).ro b=σ.ro b:=λb h=>Gw h;have a0:∀ b,¬(b<w.heap.size/\¬ gvn σ m b)->(sigF σ a A.next m u w).ro b=a.ro b:=λb h=>D' h;have D:∀ B j,back u B=some j->(sigF σ a A.next m u w) B=a j/\((sigF σ a A.next m u w).nl B↔a.nl j):=λB j s=>by
  by_cases S:B<A.next
  have hj:j<k:=by rcases d3 _ (aX s)with q|q;exact q;exact absurd S (by simpa using q)
  obtain⟨V,c3⟩:=hk j hj;have e:=dp c1 s (d6 j V hj c3);subst e;have e1:a j=(sigT (back m) σ) j:=X.sig j hj;have e2:(sigT (back m) σ) j=σ B:=by show(back m j).bind σ.f=σ.f B;rw[c3];rfl
  refine⟨by rw[l B S,e1,e2],(Q B S).trans ?_⟩;refine Iff.trans ⟨λh=>⟨B,c3,h⟩,λ⟨B',h1,h2⟩=>?_⟩ (X.snl j hj).symm;rw[c3]at h1;cases h1;exact h2;refine⟨by rw[a9 B S,s];rfl,(c6 B S).trans ⟨λ⟨j',h1,h2⟩=>?_,λh=>⟨j,s,h⟩⟩⟩;rw[s]at h1;cases h1;exact h2
 have c5:σ.sub (sigF σ a A.next m u w):=⟨λB x h=>by
  have S:B<A.next:=by
   rcases Hg B A.next with q|q
   exact q;have:=R.fresh B q;have h:σ B=some x:=h;rw[this]at h;cases h
  exact(l B S).trans h,λb o h=>(J b ⟨kl (R.ro b o h),d1 b o h⟩).trans h⟩
 have c4:(sigT (back u) a).sub (sigF σ a A.next m u w):=⟨λB x h=>by
  obtain⟨j,s,hs⟩:=bR h;exact(D B j s).1.trans hs,λb o h=>by
  have h:a.ro b=some o:=h;by_cases hc:b<w.heap.size/\¬ gvn σ m b;refine(J b hc).trans ?_;rcases X.rog b o h with q|q|⟨V,o0,x0,k1,k2,k3,k4⟩;exact q;exact absurd hc.1 (by omega);exact absurd (k4▸d0 k3) hc.2;exact(a0 b hc).trans h⟩
 have c0:∀ B o x,(∀y∈m,y.2≠B)->A.t.get B=some o->o.here=true->σ B=some x->x.1<w.heap.size/\¬ gvn σ m x.1:=λB o x b5 h M r=>⟨R.lt B x r,λ⟨y,hy,z,hz,e⟩=>by obtain⟨o',a8,a6⟩:=a5 y hy;exact R.inj y.2 B o' o z x a8 h a6 M (b5 y hy) hz r e⟩
 have O:∀ B o,tA.get B=some o->o.here=true->(∃j G,back u B=some j/\A2.t.get j=some G/\RO (back u) G o/\G.here=true)∨((∀x∈m,x.2≠B)/\A.t.get B=some o/\B<A.next):=λB o h M=>by rcases d2 B o h with q|⟨q1,Z⟩;obtain⟨j,G,H,C,I⟩:=rl.mem q;exact .inl ⟨j,G,H,C,I,by rw[<-I.here];exact M⟩;exact .inr ⟨q1,Z,d4 B o Z M⟩
 refine⟨sigF σ a A.next m u w,(hv.move v' d7).mono c4,⟨λB o h hh=>?_,λB1 B2 o1 G x1 x2 h1 h2 b0 c2 b5 Y K=>?_,λB x h=>?_,λB h=>?_,λb o h=>?_,λB o x h ho r=>?_,λB h=>?_⟩,⟨λB h=>l B h,hN,X.size,λb s hn=>a7 b s λd5=>?_,λB o x h ho r=>?_,λB o x h ho r=>?_,X.os,X.tape,X.output,c5.ro,λb o h=>?_,λB h=>Q B h⟩⟩;rcases O B o h hh with⟨j,G,H,C,I,g4⟩|⟨H,C,I⟩;rcases R2.obj0 j G C g4 with⟨b,d,c,q1,Z⟩|⟨q1,Z⟩;exact .inl ⟨b,d,c,(D B j H).1.trans q1,(I.move Z).mono c4⟩;exact .inr ⟨I.nilOk.trans q1,(D B j H).2.2 Z⟩;rcases R.obj0 B o C hh with⟨b,d,c,q1,Z⟩|⟨q1,Z⟩;refine .inl ⟨b,d,c,(l B I).trans q1,?_⟩;have:=c0 B o _ H C hh q1;rw[a7 b this.1 this.2];exact Z.mono c5;exact .inr ⟨q1,(Q B I).2 Z⟩;rcases O B1 o1 h1 (AObj.here_of_own b0)with⟨j1,p1,a1,a2,a3,a4⟩|⟨a1,a2,a3⟩;rw[(D B1 j1 a1).1]at Y;rcases O B2 G h2 c2 with⟨j2,p2,b1,b2,b3,b4⟩|⟨b1,b2,b3⟩;rw[(D B2 j2 b1).1]at K;exact R2.inj j1 j2 p1 p2 x1 x2 a2 b2 (by rw[<-a3.own];exact b0) b4 (λe=>by subst e;exact b5 (dp c1 a1 b1)) Y K;rw[l B2 b3]at K;intro e;exact L j1 p1 x1 a2 a4 Y (e▸c0 B2 G x2 b1 b2 c2 K);rw[l B1 a3]at Y;rcases O B2 G h2 c2 with⟨j2,p2,b1,b2,b3,b4⟩|⟨b1,b2,b3⟩;rw[(D B2 j2 b1).1]at K;intro e;exact L j2 p2 x2 b2 b4 K (e▸c0 B1 o1 x1 a1 a2 (AObj.here_of_own b0) Y);rw[l B2 b3]at K;exact R.inj B1 B2 o1 G x1 x2 a2 b2 b0 c2 b5 Y K;by_cases S:B<A.next
 rw[l B S]at h;exact HN (R.lt B x h) X.size;rw[a9 B S]at h;cases s:back u B with
 |none=>rw[s]at h;cases h
 |some j=>rw[s]at h;exact R2.lt j x h
 have h:nx<=B:=h;rw[a9 B (by omega)];cases s:back u B with
 |none=>rfl
 |some j=>exact absurd (cB c1 (aX s)) (by omega)
 by_cases s:b<w.heap.size/\¬ gvn σ m b;rw[J b s]at h;rw[a7 b s.1 s.2];exact R.ro b o h;rw[a0 b s]at h;exact R2.ro b o h;rcases O B o h (AObj.here_of_own ho)with⟨j,G,H,C,I,g4⟩|⟨H,C,I⟩;rw[(D B j H).1]at r;rw[a0 _ (L j G x C g4 r)];exact R2.sep j G x C (by rw[<-I.own];exact ho) r;rw[l B I]at r;rw[J _ (c0 B o x H C (AObj.here_of_own ho) r)];exact R.sep B o x C ho r;by_cases S:B<A.next
 have:=R.nl B ((Q B S).1 h);exact⟨HN this.1 hN,(l B S).trans this.2⟩;obtain⟨j,h1,h2⟩:=(c6 B S).1 h;exact⟨cB c1 (aX h1),(D B j h1).1.trans (R2.nl j h2).2⟩;obtain⟨V,o0,x0,k1,k2,k3,k4⟩:=U d5;exact hn V o0 x0 k1 k2 k3 k4;rcases O B o h (AObj.here_of_own ho)with⟨j,G,H,C,I,g4⟩|⟨H,C,I⟩;rw[(D B j H).1]at r;rcases Hg x.1 w.heap.size with q|q;exact .inr (U (Ho λhn=>L j G x C g4 r ⟨q,hn⟩));exact .inl q;rw[l B I]at r;exact .inr ⟨B,o,x,C,ho,r,rfl⟩;rcases O B o h ho with⟨j,G,H,C,I,g4⟩|⟨H,C,I⟩;rw[(D B j H).1]at r;rcases Hg x.1 w.heap.size with q|q;obtain⟨V,o0,x0,k1,k2,k3,k4⟩:=U (Ho λhn=>L j G x C g4 r ⟨q,hn⟩);exact .inr ⟨V,o0,x0,k1,AObj.here_of_own k2,k3,k4⟩;exact .inl q;rw[l B I]at r;exact .inr ⟨B,o,x,C,ho,r,rfl⟩;by_cases s:b<w.heap.size/\¬ gvn σ m b;rw[J b s]at h;exact .inl h;rcases Hg b w.heap.size with q|q;exact .inr (.inr (U (Ho λhn=>s ⟨q,hn⟩)));exact .inr (.inl q)
def EndF(E:Env)(A1:AH)(v:Value)(N:AH):KV:=λv2 A2=>∃ F2 F1,T.set FU .leaf 0 v2=some F2/\F1.get 0=some v/\Turns E A1 1 F2 A2 F1 N
def WalkF(E:Env)(fn:Func)(args:Lh)(A1:AH)(v:Value)(N:AH):Prop:=
 ∃c F,fn.body=some c/\Nat.ble args.length fn.ntmps=true/\b9 args 0 .leaf=some F/\W E A1 fn.ntmps c (Fin E fn (EndF E A1 v N)) F A1
def endF(E:Env)(A1:AH)(ns:List (NPos×TypeId×Nat))(zs:List NPos)(ws:Lg)(Q:Value->AH->Prop):KV:=λv2 A2=>match T.set FU .leaf 0 v2 with
 |some F2=>eL A1.next E ns zs ws [0] F2 A2 (λF1 N=>match F1.get 0 with|some v=>Q v N|none=>False)
 |none=>False
theorem ql(i:E.Ok)(a:GlOk E){ns:List (NPos×TypeId×Nat)}{zs:List NPos}(h:endF E A1 ns zs ws (λv1 f=>v1=v/\f=N) v2 A2):EndF E A1 v N v2 A2:=by unfold endF at h;split at h;rename_i q b;obtain⟨r,f,k,l⟩:=cQ i a (n:=1) h;split at k;rename_i v1 j;obtain⟨rfl,rfl⟩:=k;exact⟨q,r,b,j,l⟩;exact k.elim;exact h.elim
def bc(X:SX)(d:Nat)(fn:Func)(args:Lh)(A1:AH)(K:KV):Prop:=match fn.body with
 | some c=>(match b9 args 0 .leaf with
   |some F=>bif Nat.ble args.length fn.ntmps then sxC X (inlN X d) A1 fn.ntmps c F A1 (finK X.E fn.results.toList K)else False
   |none=>False)
 |none=>False
theorem aq(b:X.Ok){ns:List (NPos×TypeId×Nat)}{zs:List NPos}(h:bc X d fn args A1 (endF X.E A1 ns zs ws (λv1 s=>v1=v/\s=N))):WalkF X.E fn args A1 v N:=by unfold bc at h;split at h;rename_i c l;split at h;rename_i F r;cases a:Nat.ble args.length fn.ntmps;rw[a]at h;exact h.elim;rw[a]at h;refine⟨c,F,l,a,r,(jI b (d:=d) h).mono λt u x q=>?_⟩;obtain⟨j,v2,i,f⟩:=gq q;exact⟨j,v2,i,ql b.ok b.gl f⟩;exact h.elim;exact h.elim
theorem CallAt.tell{f:FuncId}(h:CallAt E f args A1 v2 A2)(G:EndF E A1 v N v2 A2):CallAt E f args A1 v N:=by
 intro σ w a R C H;refine(h σ w a R C H).mono λM w' r=>?_;obtain⟨v',i,rfl,s,L,X⟩:=r;obtain⟨O,Q,y,z,D⟩:=G;have q:Glob E i:=Glob.sub (σ:=σ) (λg I h=>C g I h) (ExtG.sub R X);have j:=Hp y;obtain⟨l,x,K,_,J⟩:=D _ w ⟨#[v'],[]⟩ w' ⟨i,⟨rfl,λt u b=>by unfold slot at b;rw[j]at b;by_cases e:t=0;subst e;rw[Gw rfl]at b;cases b;exact s;rw[D' e]at b;simp[T.get]at b,rfl⟩,L,q,X⟩
 exact⟨v',l,rfl,x.val 0 v z,K,J⟩
theorem WalkF.call(J:E.Ok){f:FuncId}(x:E.fn f=some fn)(K:WalkF E fn args A1 v N):CallAt E f args A1 v N:=by
 intro σ w G R H O;obtain⟨I,F,b,q,a,Q⟩:=K;refine(lq J x b a (H9 q) Q R H (Ext.refl _ _ _) O).mono λZ w' M=>?_;obtain⟨v2,v',A2,j,rfl,⟨F2,F1,C,D,L⟩,y,Y,X⟩:=M;have s:Glob E j:=Glob.sub (σ:=σ) (λg S h=>H g S h) (ExtG.sub R X);have l:=Hp C;obtain⟨r,z,V,_,U⟩:=L _ w ⟨#[v'],[]⟩ w' ⟨j,⟨rfl,λt u i=>by unfold slot at i;rw[l]at i;by_cases e:t=0;subst e;rw[Gw rfl]at i;cases i;exact y;rw[D' e]at i;simp[T.get]at i,rfl⟩,Y,s,X⟩
 exact⟨v',r,rfl,z.val 0 v D,V,U⟩
theorem o6{f:FuncId}{a:Lh}{j:Ld}{G lo:List (Nat×AObj)}{C:Value}
 (H:bq k m=true) (V:∀ i,i<k->∃ B,back m i=some B) (I:ofL G .leaf=some t1) (D:RenH m A G) (L:RVs (back m) args a) (l:∀ x∈m,∃o,A.t.get x.2=some o/\o.own=true)
 (S:CallAt E f a ⟨t1,k⟩ C N)
 (u:bq nx j=true) (hN:A.next<=nx) (y:∀ i B,i<k->back m i=some B->back j B=some i) (s:∀ x∈j,x.2<k∨A.next<=x.1) (K:RenH j N lo) (U:RV (back j) C v)
 (r:∀ B o,tA.get B=some o->(B,o)∈lo∨((∀x∈m,x.2≠B)/\A.t.get B=some o)):CallAt E f args A v ⟨tA,nx⟩:=by intro σ w b R Y ha;have R1:=R.ren H I D;refine(S _ w b R1 (λg cs h=>Y g cs h) (L.move ha)).mono λen w' Z=>?_;obtain⟨v',J,rfl,z,R3,X3⟩:=Z;obtain⟨q,Q,O,M⟩:=tO R H V I D l R3 X3 z u hN y s K U r;exact⟨v',q,rfl,Q,O,M⟩
def kM(ar:TypeId->Lk)(m:Ld)(o:AObj):Option (Lh×AObj):=
 match o with
 | .cells c e=>(match ar e with
   |some n=>bif Nat.ble n c.length then(match renL (renV m 8) (c.drop n)with|some r=>some (.agg ⟨c.take n⟩::r.1,.arr (c.take n) r.2 n e)|none=>none)else none
   |none=>renO m (.cells c e))
 | .gro els tl e=>some ([.agg ⟨glue els tl⟩],.gro (glue els tl) [] e)
 | .map es k=>some ([.agg ⟨es.map λx=>x.2.1⟩],.map es k)
 |o=>renO m o
theorem je{r:Lh×AObj}(h:kM ar m o=some r)(a:∀ x∈r.1,HF x):RO (back m) o r.2:=by unfold kM at h;split at h;rename_i c e;split at h;rename_i n q;cases f:Nat.ble n c.length;rw[f]at h;cases h;rw[f]at h;simp only[C']at h;split at h;rename_i l i;cases h;rw[GO]at f;have:=RO.toArr (ρ:=back m) (els:=c.take n) (rest:=c.drop n) (n:=n) (e:=e) (by rw[Hh];omega) (λx b=>lQ (a _ (by simp)) x b) (cS (cm 8) i λx b=>a x (by simp[b]));rw[I9]at this;exact this;cases h;exact mj h a;rename_i els tl e;exact mi (o:=.gro els tl e) (by simpa[renW]using h) a;rename_i j k;exact mi (o:=.map j k) (by simpa[renW]using h) a;exact mj h a
def Dc(ar:TypeId->Lk)(m:Ld)(A:AH)(l:Ld):Option (Lh×List (Nat×AObj)):=
 List.rec (motive:=λ_=>Option (Lh×List (Nat×AObj))) (some ([],[])) (λx _ ih=>match A.t.get x.2 with
  | some o=>bif o.own then(match kM ar m o with
    |some r=>(match ih with|some s=>some (r.1++s.1,(x.1,r.2)::s.2)|none=>none)
    |none=>none)else none
  |none=>none) l
theorem re{ar:TypeId->Lk}{m:Ld}{A:AH}:∀ {l:Ld}{r},Dc ar m A l=some r->(∀x∈l,back m x.1=some x.2)->(∀x∈r.1,HF x)->RenH m A r.2/\(∀x∈l,∃o,A.t.get x.2=some o/\o.own=true)/\r.2.map (·.1)=l.map (·.1)
 | [],r,h,_,_=>by have h:some ([],[])=some r:=h;cases h;exact⟨.nil,λx a=>by simp at a,rfl⟩
 | t ::l,r,h,hb,hh=>by
  have h:(match A.t.get t.2 with
   | some o=>bif o.own then(match kM ar m o with
     |some r=>(match Dc ar m A l with|some s=>some (r.1++s.1,(t.1,r.2)::s.2)|none=>none)
     |none=>none)else none
   |none=>none)=some r:=h
  split at h;rename_i v f;cases b:v.own;rw[b]at h;cases h;rw[b]at h;simp only[C']at h;split at h;rename_i z y;split at h;rename_i s u;cases h;obtain⟨q,j,i⟩:=re u (λx a=>hb x (by simp[a])) λx a=>hh x (by simp[a]);refine⟨.cons (hb t (by simp)) f (je y λx a=>hh x (by simp[a])) q,λx a=>?_,by simp[i]⟩;rcases GI.1 a with rfl|a;exact⟨v,f,b⟩;exact j x a;cases h;cases h;cases h
def Dd(ar:TypeId->Lk)(m:Ld)(A:AH)(l:Ld):Option (Lh×List (Nat×AObj)):=
 List.rec (motive:=λ_=>Option (Lh×List (Nat×AObj))) (some ([],[])) (λx _ ih=>match A.t.get x.2 with
  | some o=>bif o.own|| !o.here then(match kM ar m o with
    |some r=>(match ih with|some s=>some (r.1++s.1,(x.1,r.2)::s.2)|none=>none)
    |none=>none)else none
  |none=>none) l
theorem rg{ar:TypeId->Lk}{m:Ld}{A:AH}:∀ {l:Ld}{r},Dd ar m A l=some r->(∀x∈l,back m x.1=some x.2)->(∀x∈r.1,HF x)->RenH m A r.2/\r.2.map (·.1)=l.map (·.1)
 | [],r,h,_,_=>by have h:some ([],[])=some r:=h;cases h;exact⟨.nil,rfl⟩
 | t ::l,r,h,hb,hh=>by
  have h:(match A.t.get t.2 with
   | some o=>bif o.own|| !o.here then(match kM ar m o with
     |some r=>(match Dd ar m A l with|some s=>some (r.1++s.1,(t.1,r.2)::s.2)|none=>none)
     |none=>none)else none
   |none=>none)=some r:=h
  split at h;rename_i v j;cases b:(v.own|| !v.here)with
  |false=>rw[b]at h;cases h
  |true=>rw[b]at h;simp only[C']at h;split at h;rename_i y u;split at h;rename_i s q;cases h;obtain⟨i,f⟩:=rg q (λx a=>hb x (by simp[a])) λx a=>hh x (by simp[a]);exact⟨.cons (hb t (by simp)) j (je u λx a=>hh x (by simp[a])) i,by simp[f]⟩;cases h;cases h
  cases h
def outM(m:Ld)(nx:Nat)(k:Nat):Nat->Ld:=
 Nat.rec (motive:=λ_=>Ld) (m.map λx=>(x.2,x.1)) (λj ih=>(nx+j,k+j)::ih)
def setAll:List (Nat×AObj)->T AObj->Option (T AObj)
 | [],t=>some t
 |x::l,t=>match T.set FU t x.1 x.2 with|some t'=>setAll l t'|none=>none
theorem ip:∀ {l:List (Nat×AObj)}{t f:T AObj},setAll l t=some f->∀ {B:Nat}{o:AObj},f.get B=some o->(B,o)∈l∨((∀x∈l,x.1≠B)/\t.get B=some o)
 | [],t,f,h,B,o,a=>by simp only[setAll,osI]at h;subst h;exact .inr ⟨λx a=>by simp at a,a⟩
 | y::l,t,f,h,B,o,a=>by
  simp only[setAll]at h;split at h;rename_i t1 j;rcases ip h a with b|⟨i,b⟩;exact .inl (by simp[b]);rw[Hp j]at b;split at b;rename_i e;cases b;subst e;exact .inl (by simp);rename_i e;exact .inr ⟨λx a=>by rcases GI.1 a with rfl|a;exact λq=>e q.symm;exact i x a,b⟩
  cases h
def wm(k:Nat)(l:List AObj):List (Nat×AObj):=List.rec (motive:=λ_=>Nat->List (Nat×AObj)) (λ_=>[]) (λo _ ih i=>(i,o)::ih (i+1)) l k
def aS(l:List AObj):AH:=match ofL (wm 0 l) .leaf with|some t=>⟨t,l.length⟩|none=>⟨.leaf,l.length⟩
def frmR (ar:TypeId->Lk)(spec:Lh->List AObj->Option (Ll×Value×List AObj)):RunF:=λargs A=>
 match numb (s9 [] A 64 (kH (blks 8) args) []) 0 with
 | m => (match renL (renV m 8) args,Dc ar m A m with
   | some ra,some hs=>(match spec ra.2 (hs.2.map (·.2))with
     | some r=>bif ((bq (lenM m) m&&baks m)&&(ofL hs.2 .leaf).isSome)&&Nat.ble (lenM m) r.2.2.length then
      (match outM m A.next (lenM m) (r.2.2.length-lenM m)with
      | m2 =>(match renV m2 8 r.2.1,Dd (λ_=>none) m2 (aS r.2.2) m2 with
        | some rv,some ho=>bif bq (A.next+(r.2.2.length-lenM m)) m2&&baks m2 then(match setAll ho.2 A.t with
          |some tA=>some (some (HFs (ra.1++(hs.1++(rv.1++ho.1))) (PH r.1)),rv.2,⟨tA,A.next+(r.2.2.length-lenM m)⟩)
          |none=>none)else none
        |_,_=>none))else none
     |none=>none)
   |_,_=>none)
theorem mJ:∀ (l:Lg) (i:Nat),(numb l i).map (·.1)=List.range' i l.length
 | [],i=>rfl
 |B::l,i=>by show i::(numb l (i+1)).map (·.1)=_;rw[mJ l (i+1)];rfl
theorem mU:∀ (l:List (Nat×AObj)) (i:Nat),l.map (·.1)=List.range' i l.length->wm i (l.map (·.2))=l
 | [],i,_=>rfl
 |x::l,i,h=>by simp only[Hj,GY,Je,JP]at h;show(i,x.2)::wm (i+1) (l.map (·.2))=_;rw[mU l (i+1) h.2,<-h.1]
theorem pN:∀ m:Ld,lenM m=m.length
 | []=>rfl
 |x::m=>by show lenM m+1=_;rw[pN m];rfl
theorem mem_outM{m:Ld}{nx k:Nat}:∀ {n:Nat}{x:Nat×Nat},x∈outM m nx k n↔(∃y∈m,x=(y.2,y.1))∨∃ j,j<n/\x=(nx+j,k+j)
 |0,x=>by show x∈m.map (λy=>(y.2,y.1))↔_;simp only[GA,Nat.not_lt_zero,false_and,exists_false,Jl];exact⟨λ⟨y,b,a⟩=>⟨y,b,a.symm⟩,λ⟨y,b,a⟩=>⟨y,b,a.symm⟩⟩
 | n+1,x=>by
  show x∈(nx+n,k+n)::outM m nx k n↔_;rw[GI,mem_outM];constructor;rintro(h|h|⟨j,b,a⟩);exact .inr ⟨n,by omega,h⟩;exact .inl h;exact .inr ⟨j,by omega,a⟩;rintro(h|⟨j,b,a⟩);exact .inr (.inl h);rcases Hg j n with q|q;exact .inr (.inr ⟨j,q,a⟩);obtain rfl:j=n:=by omega
  exact .inl a
theorem ny(h:baks m=true):∀ x∈m,back m x.1=some x.2:=λx a=>by have:=Hc.1 h x a;unfold bak at this;split at this;rename_i C b;rw[b,Gy this];cases this
theorem wL{f:FuncId}{z:Lh->List AObj->Option (Ll×Value×List AObj)}
 (h:∀ args C p v s,z args C=some (p,v,s)->PH p->CallAt E f args (aS C) v (aS s)):∀ args A p v A',frmR ar z args A=some (p,v,A')->PH p->CallAt E f args A v A':=by
 intro args A p v A' a hp;unfold frmR at a;simp only at a;generalize a8:s9 [] A 64 (kH (blks 8) args) []=bs at a;have l:=mJ bs 0;generalize a6:numb bs 0=m at a l;rw[pN]at a;have a1:m.length=bs.length:=by have:=HD List.length l;simpa using this
 split at a;rename_i ra G Z a2;split at a;rename_i r V;cases R:((bq m.length m&&baks m)&&(ofL G.2 .leaf).isSome)&&Nat.ble m.length r.2.2.length;rw[R]at a;cases a;rw[R]at a;simp only[C']at a;simp only[f',GO,Jw]at R;obtain⟨⟨⟨Q,a5⟩,t1,J⟩,a7⟩:=R;generalize L:outM m A.next m.length (r.2.2.length-m.length)=m2 at a
 split at a;rename_i rv ho Y a3;cases t:bq (A.next+(r.2.2.length-m.length)) m2&&baks m2;rw[t]at a;cases a;rw[t]at a;simp only[C']at a;rw[f']at t;split at a;rename_i tA U;cases a;obtain⟨u,a0⟩:=gz hp;have b1:=ny a5;have b2:=ny t.2;obtain⟨rh,K,O⟩:=re a2 b1 λx b=>u x (by simp[b]);obtain⟨rl,a4⟩:=rg a3 b2 λx b=>u x (by simp[b]);have M:G.2.length=m.length:=by have:=HD List.length O;simpa using this
 have e1:wm 0 (G.2.map (·.2))=G.2:=mU _ 0 (by rw[O,l,M,a1]);have I:=h ra.2 (G.2.map (·.2)) r.1 r.2.1 r.2.2 V a0;have e2:aS (G.2.map (·.2))=⟨t1,m.length⟩:=by unfold aS;rw[e1,J];simp[M]
 rw[e2]at I;have D:∀ y∈m,(y.2,y.1)∈m2:=λy H=>by rw[<-L];exact mem_outM.2 (.inl ⟨y,H,rfl⟩)
 refine o6 Q (λi hi=>?_) J rh (cS (cm 8) Z λx b=>u x (by simp[b])) K I t.1 (Ir _ _) (λi B hi hB=>b2 _ (D _ (aX hB))) (λx b=>?_) rl (cm 8 _ _ Y λx b=>u x (by simp[b])) (λB o hB=>?_);have:i∈m.map (·.1):=by rw[l,List.mem_range'];exact⟨i,by omega,by omega⟩
 obtain⟨x,b,rfl⟩:=GA.1 this;exact⟨x.2,b1 x b⟩;rw[<-L]at b;rcases mem_outM.1 b with⟨y,H,rfl⟩|⟨j,hj,rfl⟩;exact .inl (cB Q (B':=y.1) (B:=y.2) H);exact .inr (Ir _ _);rcases ip U hB with q|⟨q1,q2⟩;exact .inl q;refine .inr ⟨λx b e=>?_,q2⟩;have:x.2∈ho.2.map (·.1):=by rw[a4];exact GA.2 ⟨_,D x b,rfl⟩
 obtain⟨y,H,S⟩:=GA.1 this;exact q1 y H (S.trans e);cases a;cases a;cases a;cases a
theorem aY(l:E.Ok){f:FuncId}(j:E.fn f=some fn){i:Lh->List AObj->Option (Ll×Value×List AObj)}
 (h:∀ args b p v a,i args b=some (p,v,a)->PH p->WalkF E fn args (aS b) v (aS a)):∀ args A p v A',frmR ar i args A=some (p,v,A')->PH p->CallAt E f args A v A':=
 wL λargs b p v a r q=>(h args b p v a r q).call l j
abbrev _root_.Go.GU:=@List.mem_cons_self
def fM(v:Value):Prop:=v.cells.toList=[v]
theorem fD:∀ {els:Lh},(∀x∈els,fM x)->am els=els
 | [],_=>rfl
 |x::l,h=>by rw[aV,fD (λy a=>h y (GS _ a)),h x GU];rfl
inductive ROX (ρ:Nat->Lk):AObj->AObj->Prop
 |of {o o1:AObj}(h:RO ρ o o1):ROX ρ o o1
 |row {els tl els1:Lh}{e:TypeId}(h1:∀ x∈els++tl,fM x) (h2:∀ x∈els1,fM x) (h:RVs ρ (els++tl) els1):ROX ρ (.gro els tl e) (.gro els1 [] e)
 |shr {els tl:Lh}{e:TypeId}(k:Nat) (h:∀ x∈am (els++tl),HF x):ROX ρ (.gro els tl e) (.gro ((els++tl).take k) [] e)
theorem ROX.own(h:ROX ρ o o1):o1.own=o.own:=by
 cases h with
 |of h=>exact h.own
 |row=>rfl
 |shr=>rfl
theorem ROX.nilOk(h:ROX ρ o o1):o1.nilOk=o.nilOk:=by
 cases h with
 |of h=>exact h.nilOk
 |row=>rfl
 |shr=>rfl
theorem ROX.here(h:ROX ρ o o1):o1.here=o.here:=by
 cases h with
 |of h=>exact h.here
 |row=>rfl
 |shr=>rfl
theorem RVs.len:∀ {l l1:Lh},RVs ρ l l1->l1.length=l.length
 |_,_,.nil=>rfl
 |_,_,.cons _ t=>by simp[t.len]
theorem ROX.move{ob:Option Obj}{cp:Nat}(h:ROX ρ o o1)(s:OR P σ ob d cp o):OR P (sigT ρ σ) ob d cp o1:=by
 cases h with
 |of h=>exact h.move s
 |shr k h=>obtain⟨G,r,t,D,C,z,q,u,L⟩:=s;refine⟨G,r,t,D,C,λi v f=>?_,λx a=>?_,u,?_⟩;rw[GG,<-cd k q,GZ]at f;split at f;obtain⟨v',O,M⟩:=z i v f;exact⟨v',O,HF.move (σ:=σ) (σ':=sigT ρ σ) (λ_ _ h=>h) (h v (GM f)) v' M⟩;cases f;rw[GG]at a;exact q x (H5 a);rw[GG,Hh];omega
 |row K J h=>
 obtain⟨G,r,t,D,C,z,q,u,L⟩:=s;refine⟨G,r,t,D,C,λi v1 b=>?_,λx a=>?_,u,?_⟩;rw[GG,fD J]at b;obtain⟨v,k1,S⟩:=h.get b;obtain⟨v',R,Q⟩:=z i v (by rw[fD K];exact k1);exact⟨v',R,S.move _ Q⟩;rw[GG]at a;have U:x.cells.size=1:=by have:=HD List.length (J x a);simpa using this
 rename_i els tl j e;cases I:els++tl with
 |nil=>rw[I]at h;have:=h.len;have:j=[]:=Hb (by simpa using this);rw[this]at a;cases a
 | cons y l=>
  have H:y∈els++tl:=by rw[I];exact GU
  have:=HD List.length (K y H);rw[U,<-q y H];simpa using this.symm
 rw[GG,h.len];exact L
def sigX(ρ:Nat->Lk)(NL:Nat->Prop)(σ:Sig):Sig:=⟨λB=>(ρ B).bind σ.f,σ.ro,λB'=>(∃B,ρ B'=some B/\σ.nl B)∨NL B'⟩
theorem CH(h:VR (sigT ρ σ) v v'):VR (sigX ρ NL σ) v v':=VR.mono (σ:=sigT ρ σ) (σ':=sigX ρ NL σ) ⟨λ_ _ h=>h,λ_ _ h=>h⟩ h
theorem CI{ob:Option Obj}{c:Nat}(h:OR P (sigT ρ σ) ob d c o):OR P (sigX ρ NL σ) ob d c o:=OR.mono (σ:=sigT ρ σ) (σ':=sigX ρ NL σ) ⟨λ_ _ h=>h,λ_ _ h=>h⟩ h
theorem Turns.rhoX{F1:T Value}(a6:GlOk E)(ρ:Nat->Lk)(NL:Nat->Prop)(r:∀ B,NL B->ρ B=none/\B<nx)
 (q:∀ B,B<A0.next->ρ B=some B) (Y:A0.next<=nx) (H:∀ B' B,ρ B'=some B->B'<nx) (I:∀ Q B2 B o1 o2,t1.get Q=some o1->o1.own=true->t1.get B2=some o2->o2.here=true->ρ Q=some B->ρ B2=some B->Q=B2)
 (a0:∀ (t:Nat) (v1:Value),F1.get t=some v1->∃ v,F.get t=some v/\RV ρ v v1)
 (K:∀ (B':Nat) (o1:AObj),t1.get B'=some o1->(∃B o,ρ B'=some B/\A.t.get B=some o/\ROX ρ o o1)∨(NL B'/\o1.nilOk=true)):Turns E A0 n F A F1 ⟨t1,nx⟩:=by
 intro S w0 a w ⟨σ,hF,R,hg,X⟩;have hx:∀ {B' x},(sigX ρ NL σ) B'=some x->∃ B,ρ B'=some B/\σ B=some x:=λh=>bR (ρ:=ρ) (σ:=σ) h;have L:∀ {B' o1 x},t1.get B'=some o1->(sigX ρ NL σ) B'=some x->∃ B o,ρ B'=some B/\A.t.get B=some o/\ROX ρ o o1/\σ B=some x:=fun {B' o1 x} h hs=>by obtain⟨B,i,j⟩:=hx hs;rcases K _ _ h with⟨C,o,z,O,g3⟩|⟨z,_⟩;rw[i]at z;cases z;exact⟨B,o,i,O,g3,j⟩;rw[(r _ z).1]at i;cases i
 refine⟨sigX ρ NL σ,⟨hF.size,λt u hu=>?_,hF.defers⟩,⟨?_,?_,?_,?_,?_,?_,λB' h=>?_⟩,(λg cs h=>hg g cs h),⟨?_,?_,X.size,X.frame,?_,?_,X.os,X.tape,X.output,X.sro,X.rog,λB G=>?_⟩⟩;obtain⟨v,i,j⟩:=a0 _ _ hu;exact CH (j.move _ (hF.val t v i));intro B' o1 h D;rcases K _ _ h with⟨B,o,i,j,s⟩|⟨i,j⟩;rcases R.obj0 B o j (by rw[<-s.here];exact D)with⟨b,d,c,z,O⟩|⟨z,O⟩;exact .inl ⟨b,d,c,dq i z,CI (s.move O)⟩;exact .inr ⟨s.nilOk.trans z,.inl ⟨B,i,O⟩⟩;exact .inr ⟨j,.inr i⟩;intro Q B2 o1 o2 x1 x2 i j y J Z V U;obtain⟨C1,p1,a1,a2,a3,a4⟩:=L i V;obtain⟨C2,p2,b1,b2,b3,b4⟩:=L j U;exact R.inj C1 C2 p1 p2 x1 x2 a2 b2 (by rw[<-a3.own];exact y) (by rw[<-b3.here];exact J) (λe=>by subst e;exact Z (I _ _ _ _ _ i y j J a1 b1)) a4 b4;intro B' x l;obtain⟨B,_,j⟩:=hx l;exact R.lt B x j;intro B' a5;show(ρ B').bind σ.f=none;cases hb:ρ B' with
 |none=>rfl
 |some B=>exact absurd (H _ _ hb) (by simp at a5;omega)
 exact R.ro;intro B' o1 x h y l;obtain⟨B,o,i,j,s,M⟩:=L h l;exact R.sep B o x j (by rw[<-s.own];exact y) M;rcases h with⟨B,i,j⟩|h;refine⟨H _ _ i,?_⟩;show(ρ B').bind σ.f=none;rw[i];exact(R.nl B j).2;refine⟨(r _ h).2,?_⟩;show(ρ B').bind σ.f=none;rw[(r _ h).1];rfl;intro B G;show(ρ B).bind σ.f=S.f B;rw[q B G];exact X.sig B G;exact Y;intro B' o1 x h y l;obtain⟨B,o,i,j,s,M⟩:=L h l;exact X.orig B o x j (by rw[<-s.own];exact y) M;intro B' o1 x h y l;obtain⟨B,o,i,j,s,M⟩:=L h l;exact X.orig2 B o x j (by rw[<-s.here];exact y) M;refine Iff.trans ⟨λh=>?_,λh=>.inl ⟨B,q B G,h⟩⟩ (X.snl B G);rcases h with⟨B',i,j⟩|h;rw[q B G]at i;cases i;exact j;have:=(r _ h).1;rw[q B G]at this;cases this
def rhoX(m:Ld)(ρf:Nat->Lk)(B:Nat):Lk:=match back m B with
 |some x=>some x
 |none=>ρf B
theorem rhoX_m{B':Nat}(h:back m B'=some B):rhoX m ρf B'=some B:=by unfold rhoX;rw[h]
theorem RV.up(b:∀ B' B,ρ B'=some B->ρ' B'=some B){a:Value}(h:RV ρ v a):RV ρ' v a:=
 RV.rec (motive_1:=λv a _=>RV ρ' v a) (motive_2:=λl l1 _=>RVs ρ' l l1) (λh=>.hf h) (λh=>.ptr (b _ _ h)) (λh=>.slice (b _ _ h)) RV.sliceE (λj=>.nilG j) (λh=>.map (b _ _ h)) (λq _ _ i f=>.func q i f) (λ_ h=>.iface h) (λ_ h=>.agg h) (λ_ h=>.tuple h) RVs.nil (λ_ _ h t=>.cons h t) h
theorem RVs.up(a:∀ B' B,ρ B'=some B->ρ' B'=some B):∀ {l l1:Lh},RVs ρ l l1->RVs ρ' l l1
 |_,_,.nil=>.nil
 |_,_,.cons h t=>.cons (h.up a) (t.up a)
theorem REs.up(a:∀ B' B,ρ B'=some B->ρ' B'=some B):∀ {l l1:Lc},REs ρ l l1->REs ρ' l l1
 |_,_,.nil=>.nil
 |_,_,.cons h t=>.cons (h.up a) (t.up a)
theorem RO.up(a:∀ B' B,ρ B'=some B->ρ' B'=some B)(h:RO ρ o o1):RO ρ' o o1:=by
 cases h with
 |cells h=>exact .cells (h.up a)
 |ro h=>exact .ro (h.up a)
 |map h=>exact .map (h.up a)
 |gro h=>exact .gro h
 |arr h k=>exact .arr h (k.up a)
 |toArr b h k=>exact .toArr b h (k.up a)
 |dead=>exact .dead
def Dm:List (Nat×AObj)->Nat->Option AObj
 | [],_=>none
 |x::l,B=>bif Nat.beq B x.1 then some x.2 else Dm l B
def kV (ws:Lg)(ov:List (Nat×AObj))(ρ:Nat->Lk)(m:Ld)(A:AH)(l:Ld):Option (Lh×Prop×List (Nat×AObj)):=
 List.rec (motive:=λ_=>Option (Lh×Prop×List (Nat×AObj))) (some ([],True,[])) (λx _ ih=>match A.t.get x.2 with
  | some o=>(match Dm ov x.1 with
    |some o1=>(match ih with|some s=>some (s.1,ROX ρ o o1/\s.2.1,(x.1,o1)::s.2.2)|none=>none)
    | none=>(match(bif isWh ws o then renW o else renO m o)with
      |some r=>(match ih with|some s=>some (r.1++s.1,s.2.1,(x.1,r.2)::s.2.2)|none=>none)
      |none=>none))
  |none=>none) l
theorem jG{ws:Lg}{ov:List (Nat×AObj)}{ρ:Nat->Lk}{m:Ld}{A:AH}(j:∀ B' B,back m B'=some B->ρ B'=some B):∀ {l:Ld}{r},kV ws ov ρ m A l=some r->(∀x∈l,back m x.1=some x.2)->(∀x∈r.1,HF x)->r.2.1->∀ B' o1,(B',o1)∈r.2.2->∃ B o,ρ B'=some B/\A.t.get B=some o/\ROX ρ o o1
 | [],r,h,_,_,_=>by have h:some ([],True,[])=some r:=h;cases h;intro B' o1 f;cases f
 | t :: l,r,h,hb,hh,hp=>by
  have h:(match A.t.get t.2 with
   | some o=>(match Dm ov t.1 with
     |some o1=>(match kV ws ov ρ m A l with|some s=>some (s.1,ROX ρ o o1/\s.2.1,(t.1,o1)::s.2.2)|none=>none)
     | none=>(match(bif isWh ws o then renW o else renO m o)with
       |some r=>(match kV ws ov ρ m A l with|some s=>some (r.1++s.1,s.2.1,(t.1,r.2)::s.2.2)|none=>none)
       |none=>none))
   |none=>none)=some r:=h
  have i:=j _ _ (hb t (by simp));split at h;rename_i v z;split at h;rename_i o1 D;split at h;rename_i s b;cases h;intro B' u f;rcases GI.1 f with e|e;cases e;exact⟨_,_,i,z,hp.1⟩;exact jG j b (λx a=>hb x (by simp[a])) hh hp.2 B' u e;cases h;split at h;rename_i C q;split at h;rename_i s b;cases h;have G:RO (back m) v C.2:=by
   cases y:isWh ws v with
   |true=>rw[y]at q;exact mi q λx a=>hh x (by simp[a])
   |false=>rw[y]at q;exact mj q λx a=>hh x (by simp[a])
  intro B' u f;rcases GI.1 f with e|e;cases e;exact⟨_,_,i,z,.of (G.up j)⟩;exact jG j b (λx a=>hb x (by simp[a])) (λx a=>hh x (by simp[a])) hp B' u e;cases h;cases h;cases h
def iR(l:List (Li×(Nat->Option AObj)))(t:T AObj):Option (T AObj):=
 List.rec (motive:=λ_=>Option (T AObj)) (some t) (λx _ ih=>match ih with|some t1=>T.setFn x.1 t1 x.2|none=>none) l
def FamOk(ρ:Nat->Lk)(NL:Nat->Prop)(A:AH)(p:Li)(g:Nat->Option AObj):Prop:=∀ i o1,g i=some o1->(∃B o,ρ (T.numF p i)=some B/\A.t.get B=some o/\ROX ρ o o1)∨(NL (T.numF p i)/\o1.nilOk=true)
def sb(ρ:Nat->Lk)(NL:Nat->Prop)(A:AH)(l:List (Li×(Nat->Option AObj))):Prop:=List.rec (motive:=λ_=>Prop) True (λx _ ih=>FamOk ρ NL A x.1 x.2/\ih) l
theorem nR{ρ:Nat->Lk}{NL:Nat->Prop}{A:AH}:∀ {l:List (Li×(Nat->Option AObj))}{t t1:T AObj},iR l t=some t1->sb ρ NL A l->∀ B' o1,t1.get B'=some o1->((∃B o,ρ B'=some B/\A.t.get B=some o/\ROX ρ o o1)∨(NL B'/\o1.nilOk=true))∨t.get B'=some o1
 | [],t,t1,h,_,B',o1,ho=>by have h:some t=some t1:=h;cases h;exact .inr ho
 |x::l,t,t1,h,hf,B',o1,ho=>by have h:(match iR l t with|some a=>T.setFn x.1 a x.2|none=>none)=some t1:=h;split at h;rename_i a f;by_cases b:T.InF x.1 B';obtain⟨i,rfl⟩:=b;rw[Jk h]at ho;exact .inl (hf.1 i o1 ho);rw[Ja h B' b]at ho;exact nR f hf.2 B' o1 ho;cases h
structure RhoOk (m:Ld) (ρf:Nat->Lk) (NL Lv:Nat->Prop) (nx:Nat):Prop where
 nl:∀ B,NL B->ρf B=none/\back m B=none/\B<nx
 lt:∀ B' B,ρf B'=some B->B'<nx
 inj:∀ B1 B2 B,Lv B1->Lv B2->ρf B1=some B->ρf B2=some B->B1=B2
 sep:∀ x∈m,∀B',Lv B'->ρf B'≠some x.2
theorem yv(r:bq nx m=true){l:Nat->Prop}(h:RhoOk m ρf NL l nx){j:Nat}(q:l j)(l2:l B2)(f:rhoX m ρf j=some B)(a:rhoX m ρf B2=some B):j=B2:=by
 unfold rhoX at f a;cases i:back m j with
 | some x=>
  rw[i]at f;cases f;cases b:back m B2 with
  |some y=>rw[b]at a;cases a;exact dp r i b
  |none=>rw[b]at a;exact absurd a (h.sep _ (aX i) _ l2)
 |none=>
 rw[i]at f;cases b:back m B2 with
 |some y=>rw[b]at a;cases a;exact absurd f (h.sep _ (aX b) _ q)
 |none=>rw[b]at a;exact h.inj _ _ _ q l2 f a
def yf (k :Nat)(ws:Lg)(ov:List (Nat×AObj))(m:Ld)(slots:Lg)(nx:Nat)(fm:List (Li×(Nat->Option AObj)))(ρf:Nat->Lk)(NL:Nat->Prop)(F:T Value)(A:AH)(K:KF):Prop:=
 match sV m F slots with
 | some r =>(match kV ws ov (rhoX m ρf) m A m with
   | some s=>(match ofL r.2 .leaf with
     | some F1=>(match ofL s.2.2 .leaf with
       | some t0=>(match iR fm t0 with
         |some t1=>bif (bq nx m&&baks m)&&Nat.ble k nx then HFs (r.1++s.1) ((∀B,B<k->rhoX m ρf B=some B)/\RhoOk m ρf NL (λB=>∃ o,t1.get B=some o/\o.here=true) nx/\s.2.1/\sb (rhoX m ρf) NL A fm/\K F1 ⟨t1,nx⟩)else False
         |none=>False)
       |none=>False)
     |none=>False)
   |none=>False)
 |none=>False
theorem qC(G:GlOk E){ov:List (Nat×AObj)}{slots:Lg}{fm:List (Li×(Nat->Option AObj))}{K:KF}(h:yf A0.next ws ov m slots nx fm ρf NL F A K):∃ F1 A1,K F1 A1/\Turns E A0 n F A F1 A1:=by
 unfold yf at h;split at h;rename_i r O;split at h;rename_i s M;split at h;rename_i F1 U;split at h;rename_i t0 z;split at h;rename_i t1 y;cases i:(bq nx m&&baks m)&&Nat.ble A0.next nx
 rw[i]at h;exact h.elim;rw[i]at h;simp only[f',GO]at i;obtain⟨I,D,a,Q,S,k⟩:=gz h;have u:∀ q B,back m q=some B->rhoX m ρf q=some B:=λ_ _ h=>rhoX_m h;have H:∀ x∈m,back m x.1=some x.2:=λx f=>by have:=Hc.1 i.1.2 x f;unfold bak at this;split at this;rename_i C V;rw[V,Gy this];cases this
 refine⟨F1,⟨t1,nx⟩,k,Turns.rhoX G (rhoX m ρf) NL (λB j=>⟨by unfold rhoX;rw[(a.nl B j).2.1];exact(a.nl B j).1,(a.nl B j).2.2⟩) D i.2 (λq B j=>?_) (λB1 B2 B o1 J g1 g2 g3 Z b l=>yv i.1.1 a ⟨o1,g1,AObj.here_of_own g2⟩ ⟨J,g3,Z⟩ b l) (λt v1 L=>?_) (λq o1 R=>?_)⟩;unfold rhoX at j;split at j;rename_i x f;exact cB i.1.1 (aX f);exact a.lt _ _ j;rcases dy U L with b|b;obtain⟨v,l,Y⟩:=(lW O λx f=>I x (by simp[f])).mem b;exact⟨v,l,Y.up u⟩;simp[T.get]at b;rcases nR y S q o1 R with b|b;exact b;rcases dy z b with l|l;exact .inl (jG u M H (λx f=>I x (by simp[f])) Q q o1 l);simp[T.get]at l;exact h.elim;exact h.elim;exact h.elim;exact h.elim;exact h.elim
structure GivenX (A:AH) (ρ:Nat->Lk) (t1:T AObj) (k1:Nat):Prop where
 at':∀ i o1,t1.get i=some o1->o1.here=true->∃ B o,ρ i=some B/\A.t.get B=some o/\ROX ρ o o1
 own:∀ i o1,t1.get i=some o1->o1.here=true->o1.own=true
 inj:∀ i j B o1 o2,t1.get i=some o1->o1.own=true->t1.get j=some o2->o2.here=true->ρ i=some B->ρ j=some B->i=j
 lt:∀ i B,ρ i=some B->i<k1
theorem GivenX.of(G:GivenX A ρ t1 k1){i:Nat}{x:Nat×Nat×Nat}(h:t1.get i=some o1)(j:o1.here=true)(f:(sigT ρ σ) i=some x):∃ B o,ρ i=some B/\A.t.get B=some o/\ROX ρ o o1/\σ B=some x:=by obtain⟨B,a,l⟩:=bR f;obtain⟨C,o,b,r,q⟩:=G.at' i o1 h j;rw[a]at b;cases b;exact⟨B,o,a,r,q,l⟩
theorem Rel.renX(R:Rel P σ A w)(G:GivenX A ρ t1 k1):Rel P (sigT ρ σ) ⟨t1,k1⟩ w:=by
 refine⟨?_,?_,?_,?_,R.ro,?_,λl h=>?_⟩;intro l o1 h a;obtain⟨B,o,j,i,s⟩:=G.at' l o1 h a;rcases R.obj0 B o i (by rw[<-s.here];exact a)with⟨b,d,c,H,D⟩|⟨H,D⟩;exact .inl ⟨b,d,c,dq j H,s.move D⟩;exact .inr ⟨s.nilOk.trans H,B,j,D⟩;intro B1 B2 o1 o2 I x2 j i r q z u t;obtain⟨C1,K,Z,Y,V,U⟩:=G.of j (AObj.here_of_own r) u;obtain⟨C2,J,S,b2,Q,O⟩:=G.of i q t;exact R.inj C1 C2 K J I x2 Y b2 (by rw[<-V.own];exact r) (by rw[<-Q.here];exact q) (λe=>by subst e;exact z (G.inj _ _ _ _ _ j r i q Z S)) U O;intro l x y;obtain⟨B,_,i⟩:=bR y;exact R.lt B x i;intro l C;show(ρ l).bind σ.f=none;cases L:ρ l with
 |none=>rfl
 |some B=>exact absurd (G.lt _ _ L) (by simp at C;omega)
 intro l o1 x h r y;obtain⟨B,o,j,i,s,M⟩:=G.of h (AObj.here_of_own r) y;exact R.sep B o x i (by rw[<-s.own];exact r) M;obtain⟨B,j,i⟩:=h;refine⟨G.lt _ _ j,?_⟩;show(ρ l).bind σ.f=none;rw[j];exact(R.nl B i).2
def gvX(σ:Sig)(ρ:Nat->Lk)(t1:T AObj)(b:Nat):Prop:=∃ i o1 y,t1.get i=some o1/\o1.own=true/\(sigT ρ σ) i=some y/\y.1=b
open Classical in
def jQ(σ σ2:Sig)(N:Nat)(ρ2:Nat->Lk)(gv:Nat->Prop)(w:World):Sig:=
 ⟨λB=>if B<N then σ.f B else(ρ2 B).bind σ2.f,λb=>if b<w.heap.size/\¬ gv b then σ.ro b else σ2.ro b,λB=>if B<N then σ.nl B else ∃j,ρ2 B=some j/\σ2.nl j⟩
theorem p8{a:Sig}{ρ2:Nat->Lk}(R:Rel P σ A w)(G:GivenX A ρ t1 k1)
 (R2:Rel P a A2 w') (X:Ext (sigT ρ σ) ⟨t1,k⟩ w a A2 w') (d3:VR a v2 v')
 (hN:A.next<=nx) (d2:∀ B i,B<A.next->ρ2 B=some i->i<k/\ρ i=some B) (c2:∀ B i,ρ2 B=some i->B<nx)
 (c3:∀ B1 B2 i o1 o2,tA.get B1=some o1->o1.own=true->tA.get B2=some o2->o2.here=true->ρ2 B1=some i->ρ2 B2=some i->B1=B2) (hv:RV ρ2 v2 v)
 (c6:∀ B o,tA.get B=some o->(∃i o2,ρ2 B=some i/\A2.t.get i=some o2/\ROX ρ2 o2 o)∨(A.t.get B=some o/\∀ i o1,t1.get i=some o1->o1.here=true->ρ i≠some B)):
 ∃σ',VR σ' v v'/\Rel P σ' ⟨tA,nx⟩ w'/\Ext σ A w σ' ⟨tA,nx⟩ w':=by
 have a5:∀ b,b<w.heap.size->¬ gvX σ ρ t1 b->w'.heap[b]? =w.heap[b]?:=λb s hn=>X.frame b s λY o x J I h3 e=>hn ⟨Y,o,x,J,I,h3,e⟩;have Q:∀ {b:Nat},gvX σ ρ t1 b->∃ Y o0 x0,A.t.get Y=some o0/\o0.own=true/\σ Y=some x0/\x0.1=b:=fun {b} ⟨i,o1,y,J,I,h3,e⟩=>by obtain⟨B,o,_,r,u,g4⟩:=G.of J (AObj.here_of_own I) h3;exact⟨B,o,y,r,by rw[<-u.own];exact I,g4,e⟩
 have c5:∀ b o,σ.ro b=some o->¬ gvX σ ρ t1 b:=λb o h hg=>by obtain⟨Y,o0,x0,k1,k2,k3,k4⟩:=Q hg;have:=R.sep Y o0 x0 k1 k2 k3;rw[k4,h]at this;cases this
 have d0:∀ B o,A.t.get B=some o->o.here=true->B<A.next:=λB o h O=>by
  rcases R.obj0 B o h O with⟨b,d,c,H,_⟩|⟨_,r⟩;rcases Hg B A.next with q|q
  exact q;rw[R.fresh B q]at H;cases H;exact(R.nl B r).1
 have M:∀ j o x,A2.t.get j=some o->o.here=true->a j=some x->¬ (x.1<w.heap.size/\¬ gvX σ ρ t1 x.1):=λj o x ho O D ⟨q1,q2⟩=>by rcases X.orig2 j o x ho O D with k1|⟨Y,o0,x0,k1,k2,k3,k4⟩;omega;exact q2 ⟨Y,o0,x0,k1,G.own _ _ k1 k2,k3,k4⟩
 have l:∀ B,B<A.next->(jQ σ a A.next ρ2 (gvX σ ρ t1) w) B=σ B:=λB h=>Gw h
 have a8:∀ B,¬B<A.next->(jQ σ a A.next ρ2 (gvX σ ρ t1) w) B=(ρ2 B).bind a.f:=λB h=>D' h
 have U:∀ B,B<A.next->((jQ σ a A.next ρ2 (gvX σ ρ t1) w).nl B↔σ.nl B):=λB h=>by show(if B<A.next then σ.nl B else _)↔_;rw[Gw h]
 have c1:∀ B,¬B<A.next->((jQ σ a A.next ρ2 (gvX σ ρ t1) w).nl B↔∃ j,ρ2 B=some j/\a.nl j):=λB h=>by show(if B<A.next then σ.nl B else _)↔_;rw[D' h]
 have K:∀ b,b<w.heap.size/\¬ gvX σ ρ t1 b->(jQ σ a A.next ρ2 (gvX σ ρ t1) w).ro b=σ.ro b:=λb h=>Gw h;have a0:∀ b,¬(b<w.heap.size/\¬ gvX σ ρ t1 b)->(jQ σ a A.next ρ2 (gvX σ ρ t1) w).ro b=a.ro b:=λb h=>D' h;have z:∀ B j,ρ2 B=some j->(jQ σ a A.next ρ2 (gvX σ ρ t1) w) B=a j/\((jQ σ a A.next ρ2 (gvX σ ρ t1) w).nl B↔a.nl j):=λB j s=>by
  by_cases V:B<A.next
  obtain⟨hj,c4⟩:=d2 B j V s;have e1:a j=(sigT ρ σ) j:=X.sig j hj;have e2:(sigT ρ σ) j=σ B:=by show(ρ j).bind σ.f=σ.f B;rw[c4];rfl
  refine⟨by rw[l B V,e1,e2],(U B V).trans ?_⟩;refine Iff.trans ⟨λh=>⟨B,c4,h⟩,λ⟨B',J,I⟩=>?_⟩ (X.snl j hj).symm;rw[c4]at J;cases J;exact I;refine⟨by rw[a8 B V,s];rfl,(c1 B V).trans ⟨λ⟨j',J,I⟩=>?_,λh=>⟨j,s,h⟩⟩⟩;rw[s]at J;cases J;exact I
 have c0:σ.sub (jQ σ a A.next ρ2 (gvX σ ρ t1) w):=⟨λB x h=>by
  have V:B<A.next:=by
   rcases Hg B A.next with q|q
   exact q;have:=R.fresh B q;have h:σ B=some x:=h;rw[this]at h;cases h
  exact(l B V).trans h,λb o h=>(K b ⟨kl (R.ro b o h),c5 b o h⟩).trans h⟩
 have b5:(sigT ρ2 a).sub (jQ σ a A.next ρ2 (gvX σ ρ t1) w):=⟨λB x h=>by
  obtain⟨j,s,hs⟩:=bR h;exact(z B j s).1.trans hs,λb o h=>by
  have h:a.ro b=some o:=h;by_cases hc:b<w.heap.size/\¬ gvX σ ρ t1 b;refine(K b hc).trans ?_;rcases X.rog b o h with q|q|⟨Y,o0,x0,k1,k2,k3,k4⟩;exact q;exact absurd hc.1 (by omega);exact absurd ⟨Y,o0,x0,k1,k2,k3,k4⟩ hc.2;exact(a0 b hc).trans h⟩
 have b0:∀ B o x,(∀i o1,t1.get i=some o1->o1.here=true->ρ i≠some B)->A.t.get B=some o->o.here=true->σ B=some x->x.1<w.heap.size/\¬ gvX σ ρ t1 x.1:=λB o x a9 h O D=>⟨R.lt B x D,λ⟨i,o1,y,J,I,h3,e⟩=>by obtain⟨C,o',H,r,u,g4⟩:=G.of J (AObj.here_of_own I) h3;exact R.inj C B o' o y x r h (by rw[<-u.own];exact I) O (λe2=>a9 i o1 J (AObj.here_of_own I) (by rw[H,e2])) g4 D e⟩
 have S:∀ B o,tA.get B=some o->o.here=true->(∃j o2,ρ2 B=some j/\A2.t.get j=some o2/\ROX ρ2 o2 o/\o2.here=true)∨((∀i o1,t1.get i=some o1->o1.here=true->ρ i≠some B)/\A.t.get B=some o/\B<A.next):=λB o h O=>by rcases c6 B o h with⟨j,o2,H,r,u⟩|⟨q2,q1⟩;exact .inl ⟨j,o2,H,r,u,by rw[<-u.here];exact O⟩;exact .inr ⟨q1,q2,d0 B o q2 O⟩
 refine⟨jQ σ a A.next ρ2 (gvX σ ρ t1) w,(hv.move v' d3).mono b5,⟨λB o h hh=>?_,λB1 B2 o1 o2 x1 x2 J I a6 a7 a9 Z L=>?_,λB x h=>?_,λB h=>?_,λb o h=>?_,λB o x h ho D=>?_,λB h=>?_⟩,⟨λB h=>l B h,hN,X.size,λb s hn=>a5 b s λd1=>?_,λB o x h ho D=>?_,λB o x h ho D=>?_,X.os,X.tape,X.output,c0.ro,λb o h=>?_,λB h=>U B h⟩⟩;rcases S B o h hh with⟨j,o2,H,r,u,g4⟩|⟨H,r,u⟩;rcases R2.obj0 j o2 r g4 with⟨b,d,c,q1,q2⟩|⟨q1,q2⟩;exact .inl ⟨b,d,c,(z B j H).1.trans q1,(u.move q2).mono b5⟩;exact .inr ⟨u.nilOk.trans q1,(z B j H).2.2 q2⟩;rcases R.obj0 B o r hh with⟨b,d,c,q1,q2⟩|⟨q1,q2⟩;refine .inl ⟨b,d,c,(l B u).trans q1,?_⟩;have:=b0 B o _ H r hh q1;rw[a5 b this.1 this.2];exact q2.mono c0;exact .inr ⟨q1,(U B u).2 q2⟩;rcases S B1 o1 J (AObj.here_of_own a6)with⟨j1,p1,a1,a2,a3,a4⟩|⟨a1,a2,a3⟩;rw[(z B1 j1 a1).1]at Z;rcases S B2 o2 I a7 with⟨j2,p2,b1,b2,b3,b4⟩|⟨b1,b2,b3⟩;rw[(z B2 j2 b1).1]at L;exact R2.inj j1 j2 p1 p2 x1 x2 a2 b2 (by rw[<-a3.own];exact a6) b4 (λe=>by subst e;exact a9 (c3 _ _ _ _ _ J a6 I a7 a1 b1)) Z L;rw[l B2 b3]at L;intro e;exact M j1 p1 x1 a2 a4 Z (e▸b0 B2 o2 x2 b1 b2 a7 L);rw[l B1 a3]at Z;rcases S B2 o2 I a7 with⟨j2,p2,b1,b2,b3,b4⟩|⟨b1,b2,b3⟩;rw[(z B2 j2 b1).1]at L;intro e;exact M j2 p2 x2 b2 b4 L (e▸b0 B1 o1 x1 a1 a2 (AObj.here_of_own a6) Z);rw[l B2 b3]at L;exact R.inj B1 B2 o1 o2 x1 x2 a2 b2 a6 a7 a9 Z L;by_cases V:B<A.next
 rw[l B V]at h;exact HN (R.lt B x h) X.size;rw[a8 B V]at h;cases s:ρ2 B with
 |none=>rw[s]at h;cases h
 |some j=>rw[s]at h;exact R2.lt j x h
 have h:nx<=B:=h;rw[a8 B (by omega)];cases s:ρ2 B with
 |none=>rfl
 |some j=>exact absurd (c2 B j s) (by omega)
 by_cases s:b<w.heap.size/\¬ gvX σ ρ t1 b;rw[K b s]at h;rw[a5 b s.1 s.2];exact R.ro b o h;rw[a0 b s]at h;exact R2.ro b o h;rcases S B o h (AObj.here_of_own ho)with⟨j,o2,H,r,u,g4⟩|⟨H,r,u⟩;rw[(z B j H).1]at D;rw[a0 _ (M j o2 x r g4 D)];exact R2.sep j o2 x r (by rw[<-u.own];exact ho) D;rw[l B u]at D;rw[K _ (b0 B o x H r (AObj.here_of_own ho) D)];exact R.sep B o x r ho D;by_cases V:B<A.next
 have:=R.nl B ((U B V).1 h);exact⟨HN this.1 hN,(l B V).trans this.2⟩;obtain⟨j,J,I⟩:=(c1 B V).1 h;exact⟨c2 B j J,(z B j J).1.trans (R2.nl j I).2⟩;obtain⟨Y,o0,x0,k1,k2,k3,k4⟩:=Q d1;exact hn Y o0 x0 k1 k2 k3 k4;rcases S B o h (AObj.here_of_own ho)with⟨j,o2,H,r,u,g4⟩|⟨H,r,u⟩;rw[(z B j H).1]at D;rcases Hg x.1 w.heap.size with q|q;exact .inr (Q (Ho λhn=>M j o2 x r g4 D ⟨q,hn⟩));exact .inl q;rw[l B u]at D;exact .inr ⟨B,o,x,r,ho,D,rfl⟩;rcases S B o h ho with⟨j,o2,H,r,u,g4⟩|⟨H,r,u⟩;rw[(z B j H).1]at D;rcases Hg x.1 w.heap.size with q|q;obtain⟨Y,o0,x0,k1,k2,k3,k4⟩:=Q (Ho λhn=>M j o2 x r g4 D ⟨q,hn⟩);exact .inr ⟨Y,o0,x0,k1,AObj.here_of_own k2,k3,k4⟩;exact .inl q;rw[l B u]at D;exact .inr ⟨B,o,x,r,ho,D,rfl⟩;by_cases s:b<w.heap.size/\¬ gvX σ ρ t1 b;rw[K b s]at h;exact .inl h;rcases Hg b w.heap.size with q|q;exact .inr (.inr (Q (Ho λhn=>s ⟨q,hn⟩)));exact .inr (.inl q)
def x9(E:Env)(f:FuncId)(k:Nat)(args:Lh)(A:AH)(v:Value)(N:AH):Prop:=∀ σ w args',Rel E.P σ A w->Glob E σ->VRs σ args args'->
 Calls E.P f ⟨args'⟩ w (λe w'=>∃ v' σ',e=.returned v'/\VR σ' v v'/\Rel E.P σ' N w'/\Ext σ ⟨A.t,k⟩ w σ' N w')
def WalkK(E:Env)(fn:Func)(k:Nat)(args:Lh)(A1:AH)(v:Value)(N:AH):Prop:=
 ∃c F,fn.body=some c/\Nat.ble args.length fn.ntmps=true/\b9 args 0 .leaf=some F/\k<=A1.next/\W E ⟨A1.t,k⟩ fn.ntmps c (Fin E fn (EndF E ⟨A1.t,k⟩ v N)) F A1
def Cl(X:SX)(d:Nat)(fn:Func)(A0:AH)(args:Lh)(A1:AH)(K:KV):Prop:=match fn.body with
 | some c=>(match b9 args 0 .leaf with
   |some F=>bif Nat.ble args.length fn.ntmps then sxC X (inlN X d) A0 fn.ntmps c F A1 (finK X.E fn.results.toList K)else False
   |none=>False)
 |none=>False
theorem sW(r:X.Ok)(j:k<=A1.next)(h:Cl X d fn ⟨A1.t,k⟩ args A1 (EndF X.E ⟨A1.t,k⟩ v N)):WalkK X.E fn k args A1 v N:=by unfold Cl at h;split at h;rename_i c l;split at h;rename_i F s;cases a:Nat.ble args.length fn.ntmps;rw[a]at h;exact h.elim;rw[a]at h;refine⟨c,F,l,a,s,j,(jI r (d:=d) h).mono λu x y q=>?_⟩;obtain⟨i,v2,f,b⟩:=gq q;exact⟨i,v2,f,b⟩;exact h.elim;exact h.elim
theorem WalkK.call(O:E.Ok){f:FuncId}(D:E.fn f=some fn)(Q:WalkK E fn k args A1 v N):x9 E f k args A1 v N:=by
 intro σ w K R L Y;obtain⟨M,F,b,q,a,U,Z⟩:=Q;have X1:Ext σ ⟨A1.t,k⟩ w σ A1 w:=⟨λ_ _=>rfl,U,GK _,λ_ _ _=>rfl,λB o x y s r=>.inr ⟨B,o,x,y,s,r,rfl⟩,λB o x y s r=>.inr ⟨B,o,x,y,s,r,rfl⟩,rfl,rfl,rfl,λ_ _ h=>h,λ_ _ h=>.inl h,λ_ _=>Jb⟩;refine(lq O D b a (H9 q) Z R L X1 Y).mono λen w' V=>?_;obtain⟨v2,v',A2,j,rfl,⟨F2,F1,I,J,S⟩,G,R2,X⟩:=V;have C:Glob E j:=λg cs h=>let ⟨y,s,c,e,fz,r,h4⟩:=L g cs h;⟨y,s,c,e,fz,X.sro _ _ r,h4⟩;have l:=Hp I;obtain⟨z,H,R3,_,X3⟩:=S _ w ⟨#[v'],[]⟩ w' ⟨j,⟨rfl,λt u i=>by unfold slot at i;rw[l]at i;by_cases e:t=0;subst e;rw[Gw rfl]at i;cases i;exact G;rw[D' e]at i;simp[T.get]at i,rfl⟩,R2,C,X⟩
 exact⟨v',z,rfl,H.val 0 v J,R3,X3⟩
theorem er{f:FuncId}{a:Lh}{ρ2:Nat->Lk}{y:Value}(G:GivenX A ρ t1 k1)(C:RVs ρ args a)
 (J:x9 E f k a ⟨t1,k1⟩ y N)
 (Q:A.next<=nx) (s:∀ B i,B<A.next->ρ2 B=some i->i<k/\ρ i=some B) (l:∀ B i,ρ2 B=some i->B<nx)
 (b:∀ x B2 i o1 o2,tA.get x=some o1->o1.own=true->tA.get B2=some o2->o2.here=true->ρ2 x=some i->ρ2 B2=some i->x=B2) (K:RV ρ2 y v)
 (r:∀ B o,tA.get B=some o->(∃i o2,ρ2 B=some i/\N.t.get i=some o2/\ROX ρ2 o2 o)∨(A.t.get B=some o/\∀ i o1,t1.get i=some o1->o1.here=true->ρ i≠some B)):CallAt E f args A v ⟨tA,nx⟩:=by intro σ w j R L O;refine(J _ w j (R.renX G) (λg S h=>L g S h) (C.move O)).mono λY w' M=>?_;obtain⟨v',z,rfl,u,V,U⟩:=M;obtain⟨q,I,H,D⟩:=p8 R G V U u Q s l b K r;exact⟨v',q,rfl,I,H,D⟩
def yV(ar:TypeId->Lk)(nm:Lg)(m:Ld)(A:AH)(l:Ld):Option (Lh×List (Nat×AObj)):=
 List.rec (motive:=λ_=>Option (Lh×List (Nat×AObj))) (some ([],[])) (λx _ ih=>bif inL x.1 nm then(match ih with|some s=>some (s.1,(x.1,.dead)::s.2)|none=>none)else(match A.t.get x.2 with
  | some o=>bif o.own then(match kM ar m o with
    |some r=>(match ih with|some s=>some (r.1++s.1,(x.1,r.2)::s.2)|none=>none)
    |none=>none)else none
  |none=>none)) l
theorem mF{ar:TypeId->Lk}{a:Lg}{m:Ld}{A:AH}:∀ {l:Ld}{r},yV ar a m A l=some r->(∀x∈l,back m x.1=some x.2)->(∀x∈r.1,HF x)->
 (∀i o1,(i,o1)∈r.2->(inL i a=true/\o1=.dead)∨(inL i a=false/\o1.own=true/\∃ B o,back m i=some B/\A.t.get B=some o/\RO (back m) o o1))/\r.2.map (·.1)=l.map (·.1)
 | [],r,h,_,_=>by have h:some ([],[])=some r:=h;cases h;exact⟨λi o1 j=>(by cases j),rfl⟩
 | t ::l,r,h,hb,hh=>by
  have h:(bif inL t.1 a then(match yV ar a m A l with|some s=>some (s.1,(t.1,.dead)::s.2)|none=>none)else(match A.t.get t.2 with
   | some o=>bif o.own then(match kM ar m o with
     |some r=>(match yV ar a m A l with|some s=>some (r.1++s.1,(t.1,r.2)::s.2)|none=>none)
     |none=>none)else none
   |none=>none))=some r:=h
  cases q:inL t.1 a with
  |true=>rw[q]at h;simp only[C']at h;split at h;rename_i s z;cases h;obtain⟨y,u⟩:=mF z (λx b=>hb x (by simp[b])) hh;refine⟨λi o1 j=>?_,by simp[u]⟩;rcases GI.1 j with e|e;cases e;exact .inl ⟨q,rfl⟩;exact y i o1 e;cases h
  |false=>rw[q]at h;simp only[GT]at h;split at h;rename_i v G;cases C:v.own;rw[C]at h;cases h;rw[C]at h;simp only[C']at h;split at h;rename_i D H;split at h;rename_i s z;cases h;obtain⟨y,u⟩:=mF z (λx b=>hb x (by simp[b])) λx b=>hh x (by simp[b]);refine⟨λi o1 j=>?_,by simp[u]⟩;rcases GI.1 j with e|e;cases e;have f:=je (r:=D) H λx b=>hh x (by simp[b]);exact .inr ⟨q,by rw[f.own];exact C,t.2,v,hb t (by simp),G,f⟩;exact y i o1 e;cases h;cases h;cases h
def yW(nm:Lg)(m:Ld)(A:AH)(l:Ld):Option (Lh×List (Nat×AObj)):=
 List.rec (motive:=λ_=>Option (Lh×List (Nat×AObj))) (some ([],[])) (λx _ ih=>bif inL x.2 nm then ih else(match A.t.get x.2 with
  | some o=>bif o.own|| !o.here then(match kM (λ_=>none) m o with
    |some r=>(match ih with|some s=>some (r.1++s.1,(x.1,r.2)::s.2)|none=>none)
    |none=>none)else none
  |none=>none)) l
theorem mH{b:Lg}{m:Ld}{A:AH}:∀ {l:Ld}{r},yW b m A l=some r->(∀x∈l,back m x.1=some x.2)->(∀x∈r.1,HF x)->RenH m A r.2/\∀ x∈l,inL x.2 b=false->∃ o,(x.1,o)∈r.2
 | [],r,h,_,_=>by have h:some ([],[])=some r:=h;cases h;exact⟨.nil,λx a=>(by cases a)⟩
 | t ::l,r,h,hb,hh=>by
  have h:(bif inL t.2 b then yW b m A l else(match A.t.get t.2 with
   | some o=>bif o.own|| !o.here then(match kM (λ_=>none) m o with
     |some r=>(match yW b m A l with|some s=>some (r.1++s.1,(t.1,r.2)::s.2)|none=>none)
     |none=>none)else none
   |none=>none))=some r:=h
  cases q:inL t.2 b with
  |true=>rw[q]at h;simp only[C']at h;obtain⟨j,i⟩:=mH h (λx a=>hb x (by simp[a])) hh;refine⟨j,λx a f=>?_⟩;rcases GI.1 a with rfl|a;rw[q]at f;cases f;exact i x a f
  |false=>
  rw[q]at h;simp only[GT]at h;split at h;rename_i v y;cases u:(v.own|| !v.here)with
  |false=>rw[u]at h;cases h
  |true=>rw[u]at h;simp only[C']at h;split at h;rename_i G D;split at h;rename_i s z;cases h;obtain⟨j,i⟩:=mH z (λx a=>hb x (by simp[a])) λx a=>hh x (by simp[a]);refine⟨.cons (hb t (by simp)) y (je D λx a=>hh x (by simp[a])) j,λx a f=>?_⟩;rcases GI.1 a with rfl|a;exact⟨_,GU⟩;obtain⟨o,C⟩:=i x a f;exact⟨o,GS _ C⟩;cases h;cases h
  cases h
def frmQ (ar:TypeId->Lk)(nm:Lg)(spec:Lh->List AObj->Option (Ll×Value×List AObj)):RunF:=λargs A=>
 match numb (s9 [] A 64 (kH (blks 8) args) []) 0 with
 | m => (match renL (renV m 8) args,yV ar nm m A m with
   | some ra,some hs=>(match spec ra.2 (hs.2.map (·.2))with
     | some r=>bif ((bq (lenM m) m&&baks m)&&(ofL hs.2 .leaf).isSome)&&Nat.ble (lenM m) r.2.2.length then
      (match outM m A.next (lenM m) (r.2.2.length-lenM m)with
      | m2 =>(match renV m2 8 r.2.1,yW nm m2 (aS r.2.2) m2 with
        | some rv,some ho=>bif bq (A.next+(r.2.2.length-lenM m)) m2&&baks m2 then(match setAll ho.2 A.t with
          |some tA=>some (some (HFs (ra.1++(hs.1++(rv.1++ho.1))) (PH r.1)),rv.2,⟨tA,A.next+(r.2.2.length-lenM m)⟩)
          |none=>none)else none
        |_,_=>none))else none
     |none=>none)
   |_,_=>none)
theorem wK(ok:E.Ok){f:FuncId}(a8:E.fn f=some fn){nm:Lg}{D:Lh->List AObj->Option (Ll×Value×List AObj)}
 (h:∀ args H p v s,D args H=some (p,v,s)->PH p->WalkF E fn args (aS H) v (aS s)):∀ args A p v A',frmQ ar nm D args A=some (p,v,A')->PH p->CallAt E f args A v A':=by
 intro args A p v A' a hp;unfold frmQ at a;simp only at a;generalize b5:s9 [] A 64 (kH (blks 8) args) []=bs at a;have u:=mJ bs 0;generalize b3:numb bs 0=m at a u;rw[pN]at a;have a5:m.length=bs.length:=by have:=HD List.length u;simpa using this
 split at a;rename_i ra L a3 a6;split at a;rename_i r a1;cases Y:((bq m.length m&&baks m)&&(ofL L.2 .leaf).isSome)&&Nat.ble m.length r.2.2.length;rw[Y]at a;cases a;rw[Y]at a;simp only[C']at a;simp only[f',GO,Jw]at Y;obtain⟨⟨⟨J,b0⟩,t1,Q⟩,b4⟩:=Y;generalize R:outM m A.next m.length (r.2.2.length-m.length)=m2 at a
 split at a;rename_i rv ho a2 a7;cases l:bq (A.next+(r.2.2.length-m.length)) m2&&baks m2;rw[l]at a;cases a;rw[l]at a;simp only[C']at a;rw[f']at l;split at a;rename_i tA a0;cases a;obtain⟨C,a4⟩:=gz hp;have b1:=ny b0;have b2:=ny l.2;obtain⟨rh,U⟩:=mF a6 b1 λx z=>C x (by simp[z]);obtain⟨rl,a9⟩:=mH a7 b2 λx z=>C x (by simp[z]);have S:L.2.length=m.length:=by have:=HD List.length U;simpa using this
 have e1:wm 0 (L.2.map (·.2))=L.2:=mU _ 0 (by rw[U,u,S,a5]);have O:=(h ra.2 (L.2.map (·.2)) r.1 r.2.1 r.2.2 a1 a4).call ok a8;have e2:aS (L.2.map (·.2))=⟨t1,m.length⟩:=by unfold aS;rw[e1,Q];simp[S]
 rw[e2]at O;have M:∀ y∈m,(y.2,y.1)∈m2:=λy V=>by rw[<-R];exact mem_outM.2 (.inl ⟨y,V,rfl⟩)
 have K:∀ i o1,t1.get i=some o1->(inL i nm=true/\o1=.dead)∨(inL i nm=false/\o1.own=true/\∃ B o,back m i=some B/\A.t.get B=some o/\RO (back m) o o1):=λi o1 b=>by rcases dy Q b with q|q;exact rh i o1 q;simp[T.get]at q
 have G:GivenX A (back m) t1 m.length:=⟨λi o1 b I=>by
  rcases K i o1 b with⟨_,e⟩|⟨_,_,B,o,q1,Z,q3⟩;rw[e]at I;simp[AObj.here]at I;exact⟨B,o,q1,Z,.of q3⟩,λi o1 b I=>by
  rcases K i o1 b with⟨_,e⟩|⟨_,q,_⟩;rw[e]at I;simp[AObj.here]at I;exact q,λi j B o1 o2 _ _ _ _ h1 h2=>dp J h1 h2,λi B b=>cB J (aX b)⟩
 refine er (ρ2:=back m2) G (cS (cm 8) a3 λx z=>C x (by simp[z])) (k:=m.length) O (Ir _ _) (λB i hB b=>?_) (λB i b=>cB l.1 (aX b)) (λB1 B2 i o1 o2 _ _ _ _ h1 h2=>dp l.1 h1 h2) (cm 8 _ _ a2 λx z=>C x (by simp[z])) (λB o hB=>?_);have z:=aX b;rw[<-R]at z;rcases mem_outM.1 z with⟨y,V,e⟩|⟨j,hj,e⟩;cases e;exact⟨cB J (B':=y.1) (B:=y.2) V,b1 y V⟩;cases e;omega;rcases ip a0 hB with q|⟨q1,Z⟩;obtain⟨i,o2,g1,g2,g3⟩:=rl.mem q;exact .inl ⟨i,o2,g1,g2,.of g3⟩;refine .inr ⟨Z,λi o1 b I e=>?_⟩;rcases K i o1 b with⟨_,e2⟩|⟨hn,_⟩;rw[e2]at I;simp[AObj.here]at I;obtain⟨o3,h3⟩:=a9 _ (M _ (aX e)) hn;exact q1 _ h3 rfl;cases a;cases a;cases a;cases a
abbrev _root_.Go.IA:=@List.mem_iff_getElem?
def frzB(σ:Sig)(p:Li)(g:Nat->Option AObj)(b:Nat):Prop:=∃ j o x,g j=some o/\o.own=true/\σ (T.numF p j)=some x/\x.1=b
open Classical in
def sigY(σ:Sig)(w:World)(p:Li)(g:Nat->Option AObj):Sig:=⟨σ.f,λb=>if frzB σ p g b then w.heap[b]? else σ.ro b,σ.nl⟩
theorem qI{b:Nat}(h:frzB σ p g b):(sigY σ w p g).ro b=w.heap[b]?:=Gw h
theorem jc{b:Nat}(h:¬ frzB σ p g b):(sigY σ w p g).ro b=σ.ro b:=D' h
theorem Rel.frzF(R:Rel P σ A w)(hg:T.getFn p A.t=some g)(U:T.setFn p A.t (λ_=>none)=some t1):
 σ.sub (sigY σ w p g)/\Rel P (sigY σ w p g) ⟨t1,A.next⟩ w/\Ext σ A w (sigY σ w p g) ⟨t1,A.next⟩ w:=by
 have l:=IQ hg;have a:∀ {B:Nat}{o:AObj},t1.get B=some o->¬ T.InF p B/\A.t.get B=some o:=fun {B o} h=>by by_cases O:T.InF p B;obtain⟨i,rfl⟩:=O;rw[Jk U]at h;cases h;rw[Ja U B O]at h;exact⟨O,h⟩
 have u:∀ b,frzB σ p g b->σ.ro b=none:=λb ⟨j,o,x,q,s,z,h4⟩=>by have:=R.sep (T.numF p j) o x (by rw[l];exact q) s z;rw[h4]at this;exact this
 have f:σ.sub (sigY σ w p g):=⟨λ_ _ h=>h,λb o h=>by rw[jc (λr=>by rw[u b r]at h;cases h)];exact h⟩
 refine⟨f,⟨λB o h Q=>?_,λB1 B2 o1 Y V x2 q s C Q M L K=>?_,R.lt,R.fresh,λb o h=>?_,λB o x h C S=>?_,R.nl⟩,⟨λ_ _=>rfl,GK _,GK _,λ_ _ _=>rfl,λB o x q s z=>.inr ⟨B,o,x,(a q).2,s,z,rfl⟩,λB o x q s z=>.inr ⟨B,o,x,(a q).2,s,z,rfl⟩,rfl,rfl,rfl,λb o h=>f.ro b o h,λb o h=>?_,λ_ _=>Jb⟩⟩;rcases R.obj0 B o (a h).2 Q with⟨b,d,c,k1,Z⟩|k;exact .inl ⟨b,d,c,k1,Z.mono f⟩;exact .inr k;exact R.inj B1 B2 o1 Y V x2 (a q).2 (a s).2 C Q M L K;by_cases r:frzB σ p g b;rw[qI r]at h;exact h;rw[jc r]at h;exact R.ro b o h;obtain⟨hn,q⟩:=a h;rw[jc (λ⟨j,J,y,I,H,G,D⟩=>R.inj (T.numF p j) B J o y x (by rw[l];exact I) q H (AObj.here_of_own C) (λe=>hn ⟨j,e.symm⟩) G S D)];exact R.sep B o x q C S;by_cases r:frzB σ p g b;obtain⟨j,J,y,I,H,G,D⟩:=r;exact .inr (.inr ⟨T.numF p j,J,y,by rw[l];exact I,H,G,D⟩);rw[jc r]at h;exact .inl h
theorem frz_VR{σ':Sig}(R:Rel P σ A w)(M:σ.sub σ')(S:∀ B,σ'.f B=σ.f B){m:Nat}{e2:TypeId}(V:A.t.get B2=some (.gro els tl e2))(U:isG m=true)(D:P.cellsOf e2=gsz m)
 (j:(els++tl).length=n) (z:∀ x,σ B2=some x->σ'.ro x.1=w.heap[x.1]?):∀ v',VR σ' (.slice (some ⟨B2,0,none⟩) n m) v'->VR σ' (.func (.yield (gsz m)) ⟨els++tl⟩ ⟨[]⟩) v':=by
 have b:∀ a,(els++tl).length=0->VR σ' (.func (.yield (gsz m)) ⟨els++tl⟩ ⟨[]⟩) (.slice a 0 0):=λa h=>by
  rw[Hb h];cases a with
  |none=>exact .datN _
  |some a=>exact .datE _ _ _
 intro v' y;rcases b8 y U with⟨e0,a,G⟩|⟨J,d',I,K,k,l,G,hn,hc,eo⟩;rw[G];exact b a (j.trans e0);have q:σ B2=some (J,d',I):=(S B2).symm.trans l;obtain⟨ca,L,Q,g1,g2,g3,s,Z,Y⟩:=R.at V rfl q;have O:σ'.ro J=some (.cells ca e2 (L,Q)):=(z _ q).trans g1;rw[G,<-j];rw[D]at s Z;refine .dat O s (by omega) ?_;refine VRs.mono M (VRs.of_get ?_ λi v r=>?_);rw[ap s];have H:(els++tl).length*gsz m<=I*gsz m:=Hr _ Y;simp only[Hh,Jd,Ii];omega;obtain⟨u,k1,y⟩:=g3 i v r;refine⟨u,?_,y⟩;have C:i<(els++tl).length*gsz m:=by have:=(GE.1 r).1;rwa[ap s]at this
 rw[GZ,Gw C,GV,Ht];simpa using k1
theorem jT(R:Rel P σ A w){els2:Lh}{t:T AObj}(S:A.t.get B=some (.gro els tl e))(D:∀ x∈els++tl,fM x)(C:∀ x∈els2,fM x)(f:els2.length=(els++tl).length)
 (O:∀ (i:Nat) (x x2:Value),(els++tl)[i]? =some x->els2[i]? =some x2->∀ v',VR σ x v'->VR σ x2 v') (Q:T.set FU A.t B (.gro els2 [] e)=some t):Rel P σ ⟨t,A.next⟩ w/\Ext σ A w σ ⟨t,A.next⟩ w:=
 Rel.retell (o2:=.gro els2 [] e) R S Q rfl rfl rfl (λb3 Y Z h=>by
  obtain⟨V,j,r,L,K,J,I,H,G⟩:=h;refine⟨V,j,r,L,K,λi u q=>?_,λx b=>?_,H,by rw[GG,f];exact G⟩;rw[GG,fD C]at q;have z:i<(els++tl).length:=by rw[<-f];exact(GE.1 q).1
  obtain⟨v',k1,M⟩:=J i (els++tl)[i] (by rw[fD D];exact E' z);exact⟨v',k1,O i _ u (E' z) q v' M⟩;rw[GG]at b;have U:x.cells.size=1:=by have:=HD List.length (C x b);simpa using this
  cases a:els++tl with
  |nil=>rw[a]at f;have:els2=[]:=Hb (by simpa using f);rw[this]at b;cases b
  |cons y l=>
  have s:y∈els++tl:=by rw[a];exact GU
  have:=HD List.length (D y s);rw[U,<-I y s];simpa using this.symm)
theorem fZ(a:Option Addr)(n m:Nat):fM (.slice a n m):=rfl
theorem oU(f:Fn)(x y:Array Value):fM (.func f x y):=rfl
theorem Turns.frzFam{B0:Nat}{els2:Lh}{t2:T AObj}(O:T.getFn p A.t=some g)(M:T.setFn p A.t (λ_=>none)=some t1)
 (hB:A.t.get B0=some (.gro els tl e)) (hp:¬ T.InF p B0) (I:els2.length=(els++tl).length)
 (G:∀ (i:Nat) (x x2:Value),(els++tl)[i]? =some x->els2[i]? =some x2->∃ (j k m:Nat) (l r:Lh) (e2:TypeId),x=.slice (some ⟨T.numF p j,0,none⟩) k m/\g j=some (.gro l r e2)/\isG m=true/\E.P.cellsOf e2=gsz m/\(l++r).length=k/\x2=.func (.yield (gsz m)) ⟨l++r⟩ ⟨[]⟩)
 (H:T.set FU t1 B0 (.gro els2 [] e)=some t2):Turns E A0 n F A F ⟨t2,A.next⟩:=by
 intro Q w0 a w ⟨σ,hF,R,J,X⟩;obtain⟨b,R1,X1⟩:=R.frzF O M;have z:=IQ O;have K:t1.get B0=some (.gro els tl e):=by rw[Ja M B0 hp];exact hB
 have s:∀ (i:Nat) (x:Value),(els++tl)[i]? =some x->∃ x2,els2[i]? =some x2:=λi x h=>by have:=(GE.1 h).1;exact⟨_,E' (by rw[I];exact this)⟩
 have f:∀ (i:Nat) (x:Value),els2[i]? =some x->∃ x2,(els++tl)[i]? =some x2:=λi x h=>by have:=(GE.1 h).1;exact⟨_,E' (by rw[<-I];exact this)⟩
 obtain⟨R2,X2⟩:=jT R1 K (λx h=>by
  obtain⟨i,u⟩:=IA.1 h;obtain⟨x2,C⟩:=s i x u;obtain⟨j,k,m,l,r,e2,q,_⟩:=G i x x2 u C;rw[q];exact fZ _ _ _) (λx h=>by
  obtain⟨i,u⟩:=IA.1 h;obtain⟨x2,C⟩:=f i x u;obtain⟨j,k,m,l,r,e2,_,_,_,_,_,q⟩:=G i x2 x C u;rw[q];exact oU _ _ _) I (λi x x2 h1 C v' D=>by
  obtain⟨j,k,m,l,r,e2,q,L,Y,V,U,S⟩:=G i x x2 h1 C;rw[S];refine frz_VR R b (λ_=>rfl) (by rw[z];exact L) Y V U (λy Z=>qI ⟨j,_,y,L,rfl,Z,rfl⟩) v' ?_;rw[<-q];exact D) H
 have hX:=X1.trans X2;exact⟨_,hF.mono b,R2,J.sub b,X.trans hX⟩
theorem Turns.frzAt{B0 c m:Nat}{l r:Lh}{e2:TypeId}{t2:T AObj}(U:A.t.get B0=some (.gro els tl e))(H:A.t.get B2=some (.gro l r e2))(C:B0≠B2)(K:∀ x∈els++tl,fM x)
 (y:(els++tl)[c]? =some (.slice (some ⟨B2,0,none⟩) k m)) (Q:isG m=true) (G:E.P.cellsOf e2=gsz m) (s:(l++r).length=k)
 (q:T.set FU A.t B2 .dead=some t1) (z:T.set FU t1 B0 (.gro ((els++tl).set c (.func (.yield (gsz m)) ⟨l++r⟩ ⟨[]⟩)) [] e)=some t2):Turns E A0 n F A F ⟨t2,A.next⟩:=by
 intro M w0 a w ⟨σ,S,R,D,X⟩;obtain⟨u,R1,L,O⟩:=wM R H Q G s q;have b:=Ext.sub R L;have I:t1.get B0=some (.gro els tl e):=by rw[Hp q,D' C];exact U
 obtain⟨Z,Y⟩:=jT R1 I K (λx y=>by
  rcases H6 y with h|h;exact K x h;rw[h];exact oU _ _ _) (by rw[GP]) (λi x x2 J f v' j=>by
  rw[Hq]at f;split at f;rename_i V;subst V;split at f;simp only[osI]at f;rw[y]at J;cases J;rw[<-f];exact O v' j;cases f;rw[J]at f;cases f;exact j) z
 exact⟨u,S.mono b,Z,D.sub b,X.trans (L.trans Y)⟩
end
end Go.AM
