/- A part of the proof. -/
import Derived.Test.YtegefclhhjbfhaaGreatDoorC
import Derived.KernelRfl
set_option linter.unusedVariables false
set_option linter.unusedSimpArgs false
set_option linter.unusedSectionVars false
namespace Go.AM
noncomputable section
theorem _root_.Go.I8:type_of% @Go.AM.T.getFn_ok:=@Go.AM.T.getFn_ok
abbrev _root_.Go.JK:=@Go.AM.T.setFn_in
theorem _root_.Go.JB:type_of% @Go.AM.T.setFn_out:=@Go.AM.T.setFn_out
variable {A A' A0:AH}{ag:Bool}{s:ByteArray}{E:Env}{fn:Func}{slots ws:Lg}{c els tl:Lh}{ts:List TypeId}{p:Ll}{B B2 N d k m n nx o sz:Nat}{ρ:Operand->Lj}{P:Program}{σ:Sig}{t1 t2:T AObj}{F:T Value}{e t ty:TypeId}{ie:TypeInfo}{v v' v2 x:Value}{w:World}
def sigO(σ:Sig)(k N:Nat):Sig:=⟨λB=>if B=k then σ N else σ B,σ.ro,λB=>if B=k then σ.nl N else σ.nl B⟩
theorem eZ:(sigO σ k N) k=σ N:=by simp[sigO]
theorem ci(h:B≠k):(sigO σ k N) B=σ B:=by simp[sigO,h]
theorem lY(h:σ k=none):σ.sub (sigO σ k N):=⟨λB x a=>by grind [ci],λ_ _ h=>h⟩
theorem Rel.focus(R:Rel P σ A w){o:AObj}(I:A.t.get N=some o)(X:N<A.next)
 (U:∀ B,t2.get B=if B=A.next then some o else if B=N then none else A.t.get B):Rel P (sigO σ A.next N) ⟨t2,A.next+1⟩ w:=by
 have V:σ A.next=none:=R.fresh _ (Hw _)
 have Q:=lY (N:=N) V;have j:∀ {B a},B≠A.next->t2.get B=some a->B≠N/\A.t.get B=some a:=fun {B a} G h=>by grind
 have q:∀ {a},t2.get A.next=some a->a=o:=λh=>by rw[U,Ht rfl]at h;cases h;rfl
 refine⟨?_,?_,?_,?_,R.ro,?_,?_⟩;intro B a h z;by_cases e:B=A.next
 subst e;obtain rfl:=q h;rcases R.obj0 N a I z with⟨b,d,c,i,f⟩|⟨i,f⟩;exact .inl ⟨b,d,c,by rw[eZ];exact i,f.mono Q⟩;refine .inr ⟨i,?_⟩;show(if A.next=A.next then σ.nl N else σ.nl A.next);rw[Ht rfl];exact f;obtain⟨_,i⟩:=j e h;rcases R.obj0 B a i z with⟨b,d,c,f,H⟩|⟨f,H⟩;exact .inl ⟨b,d,c,by rw[ci e];exact f,H.mono Q⟩;refine .inr ⟨f,?_⟩;show(if B=A.next then σ.nl N else σ.nl B);rw[Hm e];exact H;intro M B2 a K J x2 i f y z D l g;by_cases L:M=A.next
 subst L;have C:B2≠A.next:=λe=>D e.symm
 obtain rfl:=q i;obtain⟨O,f⟩:=j C f;rw[eZ]at l;rw[ci C]at g;exact R.inj N B2 a K J x2 I f y z (λe=>O e.symm) l g;obtain⟨S,i⟩:=j L i;rw[ci L]at l;by_cases C:B2=A.next
 subst C;obtain rfl:=q f;rw[eZ]at g;exact R.inj M N a K J x2 i I y z S l g;obtain⟨O,f⟩:=j C f;rw[ci C]at g;exact R.inj M B2 a K J x2 i f y z D l g;intro B x r;by_cases e:B=A.next
 subst e;rw[eZ]at r;exact R.lt N x r;rw[ci e]at r;exact R.lt B x r;intro B G;have G:A.next+1<=B:=G
 rw[ci (by omega)];exact R.fresh B (by omega);intro B a x h y r;show σ.ro x.1=none;by_cases e:B=A.next
 subst e;obtain rfl:=q h;rw[eZ]at r;exact R.sep N a x I y r;obtain⟨_,i⟩:=j e h;rw[ci e]at r;exact R.sep B a x i y r;intro B G;have u:(if B=A.next then σ.nl N else σ.nl B):=G;by_cases e:B=A.next
 rw[Ht e]at u;have H:=(R.nl N u).2;subst e;exact⟨I9 _,by rw[eZ];exact H⟩;rw[Hm e]at u;have:=R.nl B u;grind [Nat.lt_succ_of_lt,ci]
theorem Ext.focus{o:AObj}(i:A.t.get N=some o)
 (q:∀ B,t2.get B=if B=A.next then some o else if B=N then none else A.t.get B):Ext σ A w (sigO σ A.next N) ⟨t2,A.next+1⟩ w:=by
 have l:∀ {B a},B≠A.next->t2.get B=some a->A.t.get B=some a:=fun {B a} j h=>by grind
 have f:∀ {a},t2.get A.next=some a->a=o:=λh=>by rw[q,Ht rfl]at h;cases h;rfl
 refine⟨λB j=>ci (by omega),Jb _,Hw _,λ_ _ _=>rfl,?_,?_,rfl,rfl,rfl,λ_ _ h=>h,λ_ _ h=>.inl h,λB j=>?_⟩;intro B a x h g b;by_cases e:B=A.next
 subst e;obtain rfl:=f h;rw[eZ]at b;exact .inr ⟨N,a,x,i,g,b,rfl⟩;rw[ci e]at b;grind;intro B a x h g b;by_cases e:B=A.next
 subst e;obtain rfl:=f h;rw[eZ]at b;exact .inr ⟨N,a,x,i,g,b,rfl⟩;rw[ci e]at b;grind;show(if B=A.next then σ.nl N else σ.nl B)↔σ.nl B;rw[Hm (by omega)]
def gEls:Option AObj->Lh
 |some (.gro els _ _)=>els
 |_=>[]
def foK (fo:Option (Li×TypeId))(v:Value)(A:AH)(K:Value->AH->Prop):Prop:=match fo with
 |none=>K v A
 | some (p,e)=>(match v with
   | .slice (some ⟨B,0,none⟩) n m=>(match T.getFn p A.t with
     | some g=>(match T.setFn p A.t (λj=>bif Nat.beq j (T.unF p B)then none else g j)with
       | some t1=>(match T.set FU t1 A.next (.gro (gEls (g (T.unF p B))) [] e)with
         | some t2=>bif Nat.beq (T.numF p (T.unF p A.next)) A.next then False else
          (T.numF p (T.unF p B)=B/\B<A.next)/\g (T.unF p B)=some (.gro (gEls (g (T.unF p B))) [] e)/\K (.slice (some ⟨A.next,0,none⟩) n m) ⟨t2,A.next+1⟩
         |none=>False)
       |none=>False)
     |none=>False)
   |_=>K v A)
theorem VR.focus(h:VR σ (.slice (some ⟨B,0,none⟩) n m) v'):VR (sigO σ k B) (.slice (some ⟨k,0,none⟩) n m) v':=by
 have f:∀ {x},σ B=some x->(sigO σ k B) k=some x:=λh=>by rw[eZ];exact h
 cases h with
 |slice _ _ _ h q=>exact .slice _ _ _ (f h) q
 |sliceU _ h b=>exact .sliceU _ (f h) b
 |sliceV _ _ _ h b=>exact .sliceV _ _ _ (f h) b
 |sliceE=>exact .sliceE _ _ _
 |gs0 _ _ _ a g=>exact .gs0 _ _ _ a g
 |gs i u y j m h b r l g=>exact .gs i _ _ j _ (f h) b r l g
theorem foK_ok{J:Option (Li×TypeId)}{K:Value->AH->Prop}(h:foK J v A K)(D:VR σ v v')(R:Rel P σ A w):∃ v2 l a,K v2 l/\VR a v2 v'/\Rel P a l w/\Ext σ A w a l w:=by
 unfold foK at h;split at h;grind [Ext.refl];rename_i p e;split at h;rename_i B n m;split at h;rename_i g H;split at h;rename_i t1 y;split at h;rename_i t2 I;cases r:Nat.beq (T.numF p (T.unF p A.next)) A.next with
 |true=>rw[r]at h;exact h.elim
 | false=>
  rw[r]at h;obtain⟨⟨M,L⟩,O,k⟩:=h;have G:¬ T.InF p A.next:=λ⟨i,b⟩=>by grind [T.unF_numF,Hy]
  have u:A.t.get B=some (.gro (gEls (g (T.unF p B))) [] e):=by grind [I8,T.unF]
  have q:∀ C,t2.get C=if C=A.next then some (.gro (gEls (g (T.unF p B))) [] e)else if C=B then none else A.t.get C:=λC=>by
   rw[H6 I];by_cases f:C=A.next
   rw[Ht f,Ht f];rw[Hm f,Hm f];by_cases b:T.InF p C;obtain⟨i,rfl⟩:=b;rw[JK y,I8 H];by_cases z:i=T.unF p B;have:Nat.beq i (T.unF p B)=true:=by rw[z];simp[Hy]
   grind;have:Nat.beq i (T.unF p B)=false:=by grind [Nat.beq,T.unF,absurd,Ho]
   rw[this,Hm (λj=>z (by rw[<-j,T.unF_numF]))];rfl;rw[JB y C b,Hm (λj=>b ⟨T.unF p B,by rw[j];exact M.symm⟩)]
  exact⟨_,_,_,k,D.focus,Rel.focus R u L q,Ext.focus u q⟩
 exact h.elim;exact h.elim;exact h.elim;grind [Ext.refl]
abbrev KF:=T Value->AH->Prop
def oF(o lo:Nat)(els:Lh):Lh:=match Nat.beq o 0 with
 |true=>els
 |false=>els.drop lo
theorem sv(els:Lh):oF o (gLo sz o) els=els.drop (gLo sz o):=by
 unfold oF;split;rename_i h;have:=Ho h;subst this;have:gLo sz 0=0:=by unfold gLo;cases Nat.beq sz 1<;>simp
 rw[this];rfl;rfl
inductive NPos where
 |slot (t:Nat)
 |cell (t j:Nat)
 |made (t:Nat)
 |cutS (t:Nat)
 |cutC (t:Nat) (js:Lg) (j:Nat)
 |nilC (t:Nat) (js:Lg) (j:Nat)
 |emp (t:Nat)
 |groC (t:Nat) (js:Lg) (j:Nat)
def resB(A:AH)(js:Lg):Nat->Lk:=
 List.rec (motive:=λ_=>Nat->Lk) (λB=>some B) (λj _ ih B=>match A.t.get B with
  | some (.cells c _)=>(match nth c j with
    |some (.pointer (some ⟨B2,0,none⟩))=>ih B2
    |_=>none)
  |_=>none) js
def zo (E : Env) (p :NPos)(e:TypeId)(sz:Nat)(F:T Value)(A:AH)(K:KF):Prop:=
 match p with
 | .slot t => (match F.get t with
   | some (.slice none n k)=>bif Nat.beq n 0&&Nat.beq k 0 then(match T.set 64 F t (.slice (some ⟨A.next,0,none⟩) 0 (unk+3+sz)),T.set FU A.t A.next (.gro [] [] e)with
     |some F1,some t1=>K F1 ⟨t1,A.next+1⟩
     |_,_=>False)else False
   | some (.slice (some ⟨B,0,none⟩) n k)=>(match A.t.get B with
     | some (.cells c eb)=>(match Nat.blt k unk,E.ti eb,und E eb with
       | true,some ie,some d=>(match((Nat.beq n k&&Nat.blt 0 n)&&(Nat.blt 0 ie.size&&Nat.ble ie.size 65536))&&((Nat.beq c.length (n*ie.size)&&c.all cellv)&&(br d||Nat.beq ie.size 1))with
         | true=>(match T.set 64 F t (.slice (some ⟨A.next,0,none⟩) n (unk+3+ie.size)),T.set FU A.t B .dead with
           | some F1,some t1=>(match T.set FU t1 A.next (.gro (eV (br d) ie.size n c) [] eb)with
             |some t2=>K F1 ⟨t2,A.next+1⟩
             |none=>False)
           |_,_=>False)
         |false=>K F A)
       |_,_,_=>K F A)
     |_=>K F A)
   |_=>K F A)
 | .made t =>(match F.get t with
   | some (.slice (some ⟨B,0,none⟩) n k)=>(match A.t.get B with
     | some (.cells c eb)=>(match E.ti eb with
       | some ie=>bif Nat.beq ie.size 1 then(match T.set 64 F t (.slice (some ⟨A.next,0,none⟩) n (unk+3+ie.size)),T.set FU A.t B .dead with
        | some F1,some t1=>(match T.set FU t1 A.next (.gro c [] eb)with
          |some t2=>(n=k/\0<n/\n<unk/\c.length=n/\c.all cellv=true)/\K F1 ⟨t2,A.next+1⟩
          |none=>False)
        |_,_=>False)else False
       |none=>False)
     |_=>K F A)
   |_=>K F A)
 | .cell t j=>(match F.get t with
   | some (.pointer (some ⟨B,0,none⟩))=>(match A.t.get B with
     | some (.cells c eb)=>(match nth c j with
       | some (.slice none n k)=>bif Nat.beq n 0&&Nat.beq k 0 then(match T.set FU A.t B (.cells (c.set j (.slice (some ⟨A.next,0,none⟩) 0 (unk+3+sz))) eb)with
         | some t1=>(match T.set FU t1 A.next (.gro [] [] e)with
           |some t2=>K F ⟨t2,A.next+1⟩
           |none=>False)
         |none=>False)else False
       |_=>K F A)
     | some (.arr els rest nn eb)=>(match nth rest (j-nn)with
       | some (.slice none n k)=>bif Nat.beq n 0&&Nat.beq k 0 then(match T.set FU A.t B (.arr els (rest.set (j-nn) (.slice (some ⟨A.next,0,none⟩) 0 (unk+3+sz))) nn eb)with
         | some t1=>(match T.set FU t1 A.next (.gro [] [] e)with
           |some t2=>K F ⟨t2,A.next+1⟩
           |none=>False)
         |none=>False)else False
       |_=>K F A)
     |_=>K F A)
   |_=>K F A)
 | .cutS t =>(match F.get t with
   | some (.slice (some ⟨B,o,none⟩) n m)=>(match isG m,A.t.get B with
     | true,some (.gro els tl eb)=>(match E.ti eb with
       | some ie=>bif Nat.beq (gsz m) ie.size&&Nat.blt 0 ie.size then(match T.set 64 F t (.slice (some ⟨A.next,0,none⟩) n m),T.set FU A.t B .dead with
         | some F1,some t1=>(match T.set FU t1 A.next (.gro ((oF o (gLo ie.size o) (glue els tl)).take n) [] eb)with
           |some t2=>n+gLo ie.size o<=(glue els tl).length/\K F1 ⟨t2,A.next+1⟩
           |none=>False)
         |_,_=>False)else False
       |none=>False)
     |_,_=>K F A)
   |_=>K F A)
 | .cutC t js j => (match F.get t with
   | some (.pointer (some ⟨B0,0,none⟩))=>(match resB A js B0 with
     | some B => (match A.t.get B with
       | some (.cells c eb)=>(match nth c j with
         | some (.slice (some ⟨B2,o,none⟩) n m)=>(match isG m,A.t.get B2 with
           | true, some (.gro els tl e2)=>(match E.ti e2 with
             | some ie=>bif Nat.beq (gsz m) ie.size&&Nat.blt 0 ie.size then(match T.set FU A.t B2 .dead with
               | some t1=>(match T.set FU t1 A.next (.gro ((oF o (gLo ie.size o) (glue els tl)).take n) [] e2)with
                 | some t2=>(match T.set FU t2 B (.cells (c.set j (.slice (some ⟨A.next,0,none⟩) n m)) eb)with
                   |some t3=>n+gLo ie.size o<=(glue els tl).length/\K F ⟨t3,A.next+1⟩
                   |none=>False)
                 |none=>False)
               |none=>False)else False
             |none=>False)
           |_,_=>K F A)
         |_=>K F A)
       |_=>K F A)
     |none=>K F A)
   |_=>K F A)
 | .nilC t js j=>(match F.get t with
   | some (.pointer (some ⟨B0,0,none⟩))=>(match resB A js B0 with
     | some B =>(match A.t.get B with
       | some (.cells c eb)=>(match nth c j with
         | some (.slice none n k)=>bif Nat.beq n 0&&Nat.beq k 0 then(match T.set FU A.t B (.cells (c.set j (.slice (some ⟨A.next,0,none⟩) 0 (unk+3+sz))) eb)with
           | some t1=>(match T.set FU t1 A.next (.gro [] [] e)with
             |some t2=>K F ⟨t2,A.next+1⟩
             |none=>False)
           |none=>False)else False
         |_=>K F A)
       |_=>K F A)
     |none=>K F A)
   |_=>K F A)
 | .emp t =>(match F.get t with
   | some (.slice (some ⟨B,0,none⟩) n k)=>(match A.t.get B with
     | some (.cells c eb)=>(match E.ti eb with
       | some ie=>bif ((Nat.beq n 0&&Nat.beq k 0)&&Nat.beq c.length 0)&&(Nat.blt 0 ie.size&&Nat.ble ie.size 65536)then(match T.set 64 F t (.slice (some ⟨A.next,0,none⟩) 0 (unk+3+ie.size)),T.set FU A.t B .dead with
        | some F1,some t1=>(match T.set FU t1 A.next (.gro [] [] eb)with
          |some t2=>K F1 ⟨t2,A.next+1⟩
          |none=>False)
        |_,_=>False)else False
       |none=>False)
     |_=>K F A)
   |_=>K F A)
 | .groC t js j => (match F.get t with
   | some (.pointer (some ⟨B0,0,none⟩))=>(match resB A js B0 with
     | some B => (match A.t.get B with
       | some (.cells c eb)=>(match nth c j with
         | some (.slice (some ⟨B2,0,none⟩) n k)=>(match A.t.get B2 with
           | some (.cells c2 e2)=>(match E.ti e2,und E e2 with
             | some ie,some d=>bif ((Nat.blt k unk&&Nat.beq n k)&&(Nat.blt 0 ie.size&&Nat.ble ie.size 65536))&&(((Nat.beq c2.length (n*ie.size)&&c2.all cellv)&&(br d||Nat.beq ie.size 1))&& !Nat.beq B B2)then(match T.set FU A.t B2 .dead with
               | some t1=>(match T.set FU t1 A.next (.gro (eV (br d) ie.size n c2) [] e2)with
                 | some t2=>(match T.set FU t2 B (.cells (c.set j (.slice (some ⟨A.next,0,none⟩) n (unk+3+ie.size))) eb)with
                   |some t3=>K F ⟨t3,A.next+1⟩
                   |none=>False)
                 |none=>False)
               |none=>False)else False
             |_,_=>False)
           |_=>K F A)
         |_=>K F A)
       |_=>K F A)
     |none=>K F A)
   |_=>K F A)
theorem OR.cut{a:Sig}{ob:Option Obj}{c lo:Nat}(h:OR P σ ob d c (.gro els tl e))(r:σ.sub a)(f:P.cellsOf e=sz)(u:n<=k)(g:lo+k<=c):OR P a ob (d+lo*sz) k (.gro (((els++tl).drop lo).take n) [] e):=by obtain⟨K,q,z,H,G,D,j,C,L⟩:=h;rw[f]at j C;have y:(lo+k)*sz<=c*sz:=H5 _ g;rw[IG]at y;refine⟨K,q,z,H,G,λi v b=>?_,λx l=>?_,?_,?_⟩;rw[Hu,<-cb n (λx l=>j x (I0 l)),<-bP lo j,Io]at b;split at b;rw[IB]at b;obtain⟨v1,J,I⟩:=D _ v b;exact⟨v1,by rw[In];exact J,I.mono r⟩;cases b;all_goals grind
theorem oJ(I:E.Ok)(R:Rel E.P σ A w)(J:VR σ (.slice (some ⟨B2,o,none⟩) n m) v')(z:isG m=true)(i:A.t.get B2=some (.gro els tl e))(y:E.ti e=some ie)(q:gsz m=ie.size)(j:0<ie.size)(L:n+gLo ie.size o<=(glue els tl).length)
 (g:T.set FU A.t B2 .dead=some t1) (a:T.set FU t1 A.next (.gro ((oF o (gLo ie.size o) (glue els tl)).take n) [] e)=some t2):∃ f,σ.sub f/\Rel E.P f ⟨t2,A.next+1⟩ w/\Ext σ A w f ⟨t2,A.next+1⟩ w/\VR f (.slice (some ⟨A.next,0,none⟩) n m) v':=by
 rw[sv]at a;rcases b7 J z with⟨rfl,O,rfl⟩|⟨b2,u,M,r,k,b,rfl,l,D,rfl⟩;rw[List.take_zero]at a;obtain⟨H,G⟩:=Rel.nilGro (R.dead g) a;exact⟨nilU σ A.next,dZ _ _,H,(Ext.dead g).trans G,VR.gs0Mk _ _ m O z⟩;rw[q,lq j,bW]at L a;have C:E.P.cellsOf e=ie.size:=by simp[Program.cellsOf,I.ti _ _ y]
 have h:σ.sub (upd σ A.next (b2,u+r*ie.size,k)):=ch (R.fresh _ (Hw _));refine⟨_,h,R.move (w':=w) (d2:=u+r*ie.size) (c2:=k) i rfl b g a rfl rfl (λ_ _=>rfl) (OR.cut (R.at i rfl b) h C l D),Ext.move R i rfl b g a rfl (λ_ _=>rfl) rfl rfl rfl,?_⟩;rw[q];have K:=VR.gsMk (σ:=upd σ A.next (b2,u+r*ie.size,k)) (lo:=0) (n:=n) (k:=k) (m:=m) bG z l (Kf (IW _));simpa using K
theorem Turns.cutSlot(D:E.Ok){G:Nat}{F1:T Value}{t:Nat}(I:F.get t=some (.slice (some ⟨B2,o,none⟩) n m))(J:isG m=true)(u:A.t.get B2=some (.gro els tl e))(l:E.ti e=some ie)(q:gsz m=ie.size)(f:0<ie.size)(H:n+gLo ie.size o<=(glue els tl).length)
 (K:T.set 64 F t (.slice (some ⟨A.next,0,none⟩) n m)=some F1) (j:T.set FU A.t B2 .dead=some t1) (i:T.set FU t1 A.next (.gro ((oF o (gLo ie.size o) (glue els tl)).take n) [] e)=some t2):Turns E A0 G F A F1 ⟨t2,A.next+1⟩:=by intro C O a w ⟨σ,g,R,r,X⟩;obtain⟨h,z,M,L,Q⟩:=oJ D R (g.val t _ I) J u l q f H j i;refine⟨h,⟨g.size,λy v b=>?_,g.defers⟩,M,r.sub z,X.trans L⟩;have b:F1.get y=some v:=b;rw[H6 K]at b;split at b;grind;exact(g.val y v b).mono z
theorem Turns.cutCell(ok:E.Ok){m0:Nat}{j:Nat}{C:TypeId}{U:T AObj}(V:A.t.get B=some (.cells c C))(hj:c[j]? =some (.slice (some ⟨B2,o,none⟩) n m))(hg:isG m=true)(Q:A.t.get B2=some (.gro els tl e))(K:E.ti e=some ie)(M:gsz m=ie.size)(y:0<ie.size)(hn:n+gLo ie.size o<=(glue els tl).length)
 (u:T.set FU A.t B2 .dead=some t1) (r:T.set FU t1 A.next (.gro ((oF o (gLo ie.size o) (glue els tl)).take n) [] e)=some t2) (G:T.set FU t2 B (.cells (c.set j (.slice (some ⟨A.next,0,none⟩) n m)) C)=some U):Turns E A0 m0 F A F ⟨U,A.next+1⟩:=by
 intro Y w0 a w ⟨σ,hF,R,O,X⟩;obtain⟨b,d,cp,l,c',a0,a2,q1,q2,Z,q4⟩:=R.obj B _ V rfl;obtain⟨v',k1,k2⟩:=Z j _ hj;have J:B≠B2:=by grind
 have I:B≠A.next:=by intro e';rw[e',R.fresh _ (Hw _)]at l;cases l
 have z:t2.get B=some (.cells c C):=by rw[H6 r,Hm I,H6 u,Hm J];exact V
 obtain⟨q,H,R1,X1,hv⟩:=oJ ok R k2 hg Q K M y hn u r;obtain⟨p1,p2⟩:=Rel.retellAt (o2:=.cells (c.set j (.slice (some ⟨A.next,0,none⟩) n m)) C) R1 z G rfl rfl rfl (λb1 d1 S g h=>by have hb:=H.f B _ l;have g:q.f B=some (b1,d1,S):=g;rw[hb]at g;cases g;obtain⟨c2,D,L,h1,h2,h3,h4⟩:=h;refine⟨c2,D,L,h1,h2,λi v a1=>?_,h4⟩;grind)
 exact⟨q,hF.mono H,p1,O.sub H,X.trans (X1.trans p2)⟩
theorem ox(V:E.Ok)(R:Rel E.P σ A w)(l:VR σ (.slice (some ⟨B,0,none⟩) n n) v')(hk:n<unk)(J:A.t.get B=some (.cells c e))(G:E.ti e=some ie)(I:ag=true∨ie.size=1)(Z:0<ie.size)(a0:ie.size<=65536)(z:c.length=n*ie.size)(H:c.all cellv=true)
 (u:T.set FU A.t B .dead=some t1) (r:T.set FU t1 A.next (.gro (eV ag ie.size n c) [] e)=some t2):∃ f,σ.sub f/\Rel E.P f ⟨t2,A.next+1⟩ w/\Ext σ A w f ⟨t2,A.next+1⟩ w/\VR f (.slice (some ⟨A.next,0,none⟩) n (unk+3+ie.size)) v':=by
 obtain⟨b,d,cp,j,Q,K,hi,g1,g2,O,g4,g5⟩:=R.obj B _ J rfl;obtain⟨Y,X,k3⟩:=ia (agg:=ag) I n c z H;have C:E.P.cellsOf e=ie.size:=by simp[Program.cellsOf,V.ti _ _ G]
 have h:=ch (σ:=σ) (id:=A.next) (x:=(b,d,n)) (R.fresh _ (Hw _));have g:d+n*ie.size<=Q.size:=by
  by_cases h0:n*ie.size=0;rw[h0];omega;have hl:n*ie.size-1<c.length:=by omega
  obtain⟨v',e1,_⟩:=O (n*ie.size-1) c[n*ie.size-1] (Hr hl);grind
 refine⟨upd σ A.next (b,d,n),h,R.move (w':=w) (d2:=d) (c2:=n) J rfl j u r rfl rfl (λ_ _=>rfl) ⟨Q,K,hi,g1,g2,λi v L=>?_,?_,?_,?_⟩,Ext.move R J rfl j u r rfl (λ_ _=>rfl) rfl rfl rfl,?_⟩;rw[Hu,Y]at L;obtain⟨v',U,S⟩:=O i v L;exact⟨v',U,S.mono h⟩;rw[Hu,C];exact X;rw[C];exact g;grind;generalize D:n=n1 at l;generalize a1:n1=n2 at l;cases l with
 |slice i q k y a2=>rw[j]at y;cases y;subst D;exact .gs 0 0 _ _ _ bG (by omega) (by omega) (by omega) (by omega)
 |sliceU q y M=>omega
 |sliceV i q k y M=>omega
 |gs0 B o m a hm=>omega
 |gs K o q k m y M hc ho hm=>omega
theorem Turns.groSlot(G:E.Ok){F1:T Value}{t:Nat}(I:F.get t=some (.slice (some ⟨B,0,none⟩) n n))(J:n<unk)(M:A.t.get B=some (.cells c e))(r:E.ti e=some ie)(y:ag=true∨ie.size=1)(l:0<ie.size)(q:ie.size<=65536)(f:c.length=n*ie.size)(u:c.all cellv=true)
 (L:T.set 64 F t (.slice (some ⟨A.next,0,none⟩) n (unk+3+ie.size))=some F1) (j:T.set FU A.t B .dead=some t1) (i:T.set FU t1 A.next (.gro (eV ag ie.size n c) [] e)=some t2):Turns E A0 m F A F1 ⟨t2,A.next+1⟩:=by intro D S a w ⟨σ,g,R,K,X⟩;obtain⟨h,C,Q,O,H⟩:=ox G R (g.val t _ I) J M r y l q f u j i;refine⟨h,⟨g.size,λz v b=>?_,g.defers⟩,Q,K.sub C,X.trans O⟩;have b:F1.get z=some v:=b;rw[H6 L]at b;split at b;grind;exact(g.val z v b).mono C
theorem Turns.groCell(ok:E.Ok){j:Nat}{c2:Lh}{C:TypeId}{Z:T AObj}(hB:A.t.get B=some (.cells c C))(hj:c[j]? =some (.slice (some ⟨B2,0,none⟩) n n))(L:B≠B2)(hk:n<unk)(V:A.t.get B2=some (.cells c2 e))(M:E.ti e=some ie)(U:ag=true∨ie.size=1)(H:0<ie.size)(I:ie.size<=65536)(y:c2.length=n*ie.size)(S:c2.all cellv=true)
 (u:T.set FU A.t B2 .dead=some t1) (r:T.set FU t1 A.next (.gro (eV ag ie.size n c2) [] e)=some t2) (G:T.set FU t2 B (.cells (c.set j (.slice (some ⟨A.next,0,none⟩) n (unk+3+ie.size))) C)=some Z):Turns E A0 m F A F ⟨Z,A.next+1⟩:=by
 intro a0 w0 a w ⟨σ,hF,R,Q,X⟩;obtain⟨b,d,cp,l,c',a1,a3,q1,q2,q3,q4⟩:=R.obj B _ hB rfl;obtain⟨v',k1,k2⟩:=q3 j _ hj;have K:B≠A.next:=by intro e';rw[e',R.fresh _ (Hw _)]at l;cases l
 have z:t2.get B=some (.cells c C):=by rw[H6 r,Hm K,H6 u,Hm L];exact hB
 obtain⟨q,J,R1,X1,hv⟩:=ox ok R k2 hk V M U H I y S u r;obtain⟨p1,p2⟩:=Rel.retellAt (o2:=.cells (c.set j (.slice (some ⟨A.next,0,none⟩) n (unk+3+ie.size))) C) R1 z G rfl rfl rfl (λb1 d1 Y g h=>by have hb:=J.f B _ l;have g:q.f B=some (b1,d1,Y):=g;rw[hb]at g;cases g;obtain⟨c2,D,O,h1,h2,h3,h4⟩:=h;refine⟨c2,D,O,h1,h2,λi v a2=>?_,h4⟩;grind)
 exact⟨q,hF.mono J,p1,Q.sub J,X.trans (X1.trans p2)⟩
theorem oK:∀ (n:Nat) (c:Lh),c.length=n->eV false 1 n c=c
 |0,c,h=>by rw[H0 h];rfl
 |n+1,[],h=>by simp at h
 |n+1,v::c,h=>by have:eV false 1 (n+1) (v::c)=v::eV false 1 n c:=rfl;rw[this,oK n c (by simpa using h)]
theorem zn(X:E.Ok){p:NPos}{K:KF}(h:zo E p e sz F A K):∃ F1 A1,K F1 A1/\Turns E A0 n F A F1 A1:=by
 unfold zo at h;split at h;rename_i t;split at h;rename_i g y r;cases a:(Nat.beq g 0&&Nat.beq y 0);rw[a]at h;exact h.elim;rw[a]at h;simp only[f',Hy]at a;obtain⟨rfl,rfl⟩:=a;simp only[C']at h;split at h;rename_i F1 t1 hF Y;exact⟨F1,_,h,Turns.nilSlot (IT _ _) r hF Y⟩;exact h.elim;rename_i B g y r;split at h;rename_i c C q;split at h;rename_i ie d hk i hd;split at h;rename_i S;simp only[f',Iu,Hy,Iv,HA]at S;obtain⟨⟨⟨rfl,c1⟩,H,U⟩,⟨c4,c5⟩,c6⟩:=S;grind [Iv,Turns.groSlot];exact⟨F,A,h,Turns.refl⟩;exact⟨F,A,h,Turns.refl⟩;exact⟨F,A,h,Turns.refl⟩;exact⟨F,A,h,Turns.refl⟩;rename_i t;split at h;rename_i B u g r;split at h;rename_i c C q;split at h;rename_i ie i;cases a:Nat.beq ie.size 1;rw[a]at h;exact h.elim;rw[a]at h;simp only[C']at h;rw[Hy]at a;split at h;rename_i F1 t1 D f;split at h;rename_i t2 b;obtain⟨⟨rfl,c1,H,U,c4⟩,h⟩:=h;rw[<-oK u c U,<-a]at b;grind [Turns.groSlot];exact h.elim;exact h.elim;exact h.elim;exact⟨F,A,h,Turns.refl⟩;exact⟨F,A,h,Turns.refl⟩;rename_i t j;split at h;rename_i B r;split at h;rename_i c C q;split at h;rename_i g y l;rw[aP]at l;cases a:(Nat.beq g 0&&Nat.beq y 0);rw[a]at h;exact h.elim;rw[a]at h;simp only[f',Hy]at a;obtain⟨rfl,rfl⟩:=a;simp only[C']at h;split at h;rename_i t1 f;split at h;rename_i t2 b;exact⟨F,_,h,Turns.nilCell (IT _ _) q l f b⟩;exact h.elim;exact h.elim;exact⟨F,A,h,Turns.refl⟩;rename_i els Q nn C q;split at h;rename_i g y l;rw[aP]at l;cases a:(Nat.beq g 0&&Nat.beq y 0);rw[a]at h;exact h.elim;rw[a]at h;simp only[f',Hy]at a;obtain⟨rfl,rfl⟩:=a;simp only[C']at h;split at h;rename_i t1 f;split at h;rename_i t2 b;exact⟨F,_,h,Turns.nilArr (IT _ _) q l f b⟩;exact h.elim;exact h.elim;exact⟨F,A,h,Turns.refl⟩;exact⟨F,A,h,Turns.refl⟩;exact⟨F,A,h,Turns.refl⟩;rename_i t;split at h;rename_i B o u I r;split at h;rename_i els tl C Z G;split at h;rename_i ie i;cases a:(Nat.beq (gsz I) ie.size&&Nat.blt 0 ie.size);rw[a]at h;exact h.elim;rw[a]at h;simp only[f',Hy,Iv]at a;simp only[C']at h;grind [Turns.cutSlot];exact h.elim;exact⟨F,A,h,Turns.refl⟩;exact⟨F,A,h,Turns.refl⟩;rename_i t R j;split at h;rename_i V r;split at h;rename_i B z;split at h;rename_i c C q;split at h;rename_i B2 o u I l;rw[aP]at l;split at h;rename_i els tl e2 Z G;split at h;rename_i ie i;cases a:(Nat.beq (gsz I) ie.size&&Nat.blt 0 ie.size);rw[a]at h;exact h.elim;rw[a]at h;simp only[f',Hy,Iv]at a;simp only[C']at h;grind [Turns.cutCell];exact h.elim;exact⟨F,A,h,Turns.refl⟩;exact⟨F,A,h,Turns.refl⟩;exact⟨F,A,h,Turns.refl⟩;exact⟨F,A,h,Turns.refl⟩;exact⟨F,A,h,Turns.refl⟩;rename_i t R j;split at h;rename_i V r;split at h;rename_i B z;split at h;rename_i c C q;split at h;rename_i g y l;rw[aP]at l;cases a:(Nat.beq g 0&&Nat.beq y 0);rw[a]at h;exact h.elim;rw[a]at h;simp only[f',Hy]at a;obtain⟨rfl,rfl⟩:=a;simp only[C']at h;split at h;rename_i t1 f;split at h;rename_i t2 b;exact⟨F,_,h,Turns.nilCell (IT _ _) q l f b⟩;exact h.elim;exact h.elim;exact⟨F,A,h,Turns.refl⟩;exact⟨F,A,h,Turns.refl⟩;exact⟨F,A,h,Turns.refl⟩;exact⟨F,A,h,Turns.refl⟩;rename_i t;split at h;rename_i B u g r;split at h;rename_i c C q;split at h;rename_i ie i;cases a:((Nat.beq u 0&&Nat.beq g 0)&&Nat.beq c.length 0)&&(Nat.blt 0 ie.size&&Nat.ble ie.size 65536);rw[a]at h;exact h.elim;rw[a]at h;simp only[C']at h;simp only[f',Hy,Iv,HA]at a;obtain⟨⟨⟨rfl,rfl⟩,O⟩,L,J⟩:=a;split at h;rename_i F1 t1 D f;split at h;rename_i t2 b;have M:c=[]:=H0 O;exact⟨F1,_,h,Turns.groSlot (ag:=true) X r (by unfold unk;omega) q i (.inl rfl) L J (by omega) (by rw[M];rfl) D f b⟩;exact h.elim;exact h.elim;exact h.elim;exact⟨F,A,h,Turns.refl⟩;exact⟨F,A,h,Turns.refl⟩;rename_i t R j;split at h;rename_i V r;split at h;rename_i B z;split at h;rename_i c C q;split at h;rename_i B2 u g l;rw[aP]at l;split at h;rename_i H e2 G;split at h;rename_i ie d i hd;cases a:((Nat.blt g unk&&Nat.beq u g)&&(Nat.blt 0 ie.size&&Nat.ble ie.size 65536))&&(((Nat.beq H.length (u*ie.size)&&H.all cellv)&&(br d||Nat.beq ie.size 1))&& !Nat.beq B B2)with
 |false=>rw[a]at h;exact h.elim
 |true=>rw[a]at h;simp only[C']at h;simp only[f',Iu,JA,Hy,Iv,HA]at a;obtain⟨⟨⟨q1,rfl⟩,q2,q3⟩,⟨⟨q4,q5⟩,q6⟩,q7⟩:=a;grind [Turns.groCell,aZ]
 exact h.elim;exact⟨F,A,h,Turns.refl⟩;exact⟨F,A,h,Turns.refl⟩;exact⟨F,A,h,Turns.refl⟩;exact⟨F,A,h,Turns.refl⟩;exact⟨F,A,h,Turns.refl⟩
def nilK(E:Env)(l:List (NPos×TypeId×Nat)):T Value->AH->KF->Prop:=
 List.rec (motive:=λ_=>T Value->AH->KF->Prop) (λF A K=>K F A) (λx _ ih F A K=>zo E x.1 x.2.1 x.2.2 F A (λF1 A1=>ih F1 A1 K)) l
theorem mv{E:Env}(a:E.Ok){A0:AH}{n:Nat}:∀ {l:List (NPos×TypeId×Nat)}{F:T Value}{A:AH}{K:KF},nilK E l F A K->∃ F1 A1,K F1 A1/\Turns E A0 n F A F1 A1
 | [],F,A,K,h=>⟨F,A,h,Turns.refl⟩
 |x::l,F,A,K,h=>by have h:zo E x.1 x.2.1 x.2.2 F A (λF1 A1=>nilK E l F1 A1 K):=h;obtain⟨F1,A1,h,t1⟩:=zn a (E:=E) (A0:=A0) (n:=n) h;obtain⟨b,f,h,t2⟩:=mv a (E:=E) (A0:=A0) (n:=n) h;exact⟨b,f,h,t1.trans t2⟩
abbrev _root_.Go.H4:=@List.map_map
abbrev _root_.Go.IC:=@List.map_id
theorem _root_.Go.HQ:type_of% @List.map_congr_left:=@List.map_congr_left
abbrev _root_.Go.Iw:=@Option.some.inj
abbrev _root_.Go.HN:=@Nat.add_zero
theorem _root_.Go.Hp:type_of% @List.length_map:=@List.length_map
theorem _root_.Go.HZ:type_of% @List.length_replicate:=@List.length_replicate
def Sp(b:Bool)(p q:Prop):Prop:=Bool.rec (motive:=λ_=>Prop) q p b
theorem Sp.intro{b:Bool}{p q:Prop}(h:b=true->p)(k:b=false->q):Sp b p q:=by
 cases b with
 |true=>exact h rfl
 |false=>exact k rfl
theorem Sp.cases{b:Bool}{p q:Prop}(h:Sp b p q):(b=true/\p)∨(b=false/\q):=by
 cases b with
 |true=>exact .inl ⟨rfl,h⟩
 |false=>exact .inr ⟨rfl,h⟩
inductive Stop {α :Type}(x: α):Prop
theorem Stop.elim{a :Type}{x: a}{p:Prop}(h:Stop x):p:=nomatch h
inductive Leaf (p:Prop):Prop
 |mk (h:p):Leaf p
theorem Leaf.get{p:Prop}(h:Leaf p):p:=by cases h with|mk h=>exact h
def pc(p:Ll)(q:Prop):Prop:=match p with|none=>q|some p=>p/\q
def PH(p:Ll):Prop:=match p with|none=>True|some p=>p
theorem di{q:Prop}(h:pc p q):PH p/\q:=by
 cases p with
 |none=>exact⟨trivial,h⟩
 |some p=>exact h
structure El where
 at':Nat->Nat->Lh->Int->Lj
 app:Bool
 gm:TypeId->Bool
 ml:TypeId->Lc->Value->Option (Value×Bool)
 mu:TypeId->Lc->Nat->Value->Value->Option (Lc×Nat)
 md:TypeId->Lc->Value->Option Lc
 fo:Lk->Option (Li×TypeId)
 hk:Lk->List (NPos×TypeId×Nat)
def El.of(f:Nat->Nat->Lh->Int->Lj):El:=⟨f,false,λ_=>false,λ_ _ _=>none,λ_ _ _ _ _=>none,λ_ _ _=>none,λ_=>none,λ_=>[]⟩
abbrev KV:=Value->AH->Prop
abbrev RunF:=Lh->AH->Option (Ll×Value×AH)
abbrev Tab:=List (FuncId×RunF)
abbrev Inl:=Func->Lh->AH->KV->Prop
def pf:Tab->FuncId->Option RunF
 | [],_=>none
 |(g,x)::l,f=>bif Nat.beq f g then some x else pf l f
def uj(l:Tab):bR:=λf args A=>match pf l f with
 |some x=>(match x args A with|some (p,v,A')=>(open Classical in if PH p then some (v,A')else none)|none=>none)
 |none=>none
def CallAt(E:Env)(f:FuncId)(args:Lh)(A:AH)(v:Value)(A':AH):Prop:=∀ σ w args',Rel E.P σ A w->Glob E σ->VRs σ args args'->
 Calls E.P f ⟨args'⟩ w (λe w'=>∃ v' σ',e=.returned v'/\VR σ' v v'/\Rel E.P σ' A' w'/\Ext σ A w σ' A' w')
inductive TabOk (E:Env):Tab->Prop
 |nil:TabOk E []
 |cons {f:FuncId}{x:RunF}{l:Tab}(h:∀ args A p v A',x args A=some (p,v,A')->PH p->CallAt E f args A v A') (t:TabOk E l):TabOk E ((f,x)::l)
theorem TabOk.get:∀ {l:Tab},TabOk E l->∀ {f:FuncId}{x:RunF},pf l f=some x->∀ args A p v A',x args A=some (p,v,A')->PH p->CallAt E f args A v A'
 |_,.nil,f,x,h=>by simp[pf]at h
 | _,.cons (f:=g) h t,f,x,hx=>by
  simp only[pf]at hx;cases e:Nat.beq f g with
  |true=>simp_all
  |false=>rw[e]at hx;exact t.get hx
theorem Ai{l:Tab}(h:TabOk E l):fJ E (uj l):=by intro f g A v A' a σ w b R r u;unfold uj at a;split at a;rename_i x i;split at a;rename_i p y A0 j;split at a;rename_i q;cases a;exact h.get i g A p _ _ j q σ w b R r u;cases a;cases a;cases a
def bg(b:Lh->Ll)(a:Lh->Lj):RunF:=λargs A=>match a args with|some v=>some (b args,v,A)|none=>none
theorem ul{f:FuncId}{args:Lh}(h:Con E f (dC (one args v)))(A:AH):CallAt E f args A v A:=by intro σ w a R b g;exact h args A v A (by simp[dC,mi]) σ w a R b g
theorem c8(g:E.Ok)(a:GlOk E){f:FuncId}(b:E.fn f=some fn){args:Lh}(i:∀ x∈args,HF x)(h:Walk E fn args v)(A:AH):CallAt E f args A v A:=
 ul (qo g a b i h) A
theorem fM{f:FuncId}{b:Lh->Ll}{a:Lh->Lj}(h:∀ args v,a args=some v->PH (b args)->∀ A,CallAt E f args A v A):∀ args A p v A',bg b a args A=some (p,v,A')->PH p->CallAt E f args A v A':=by intro args A p v A' g i;unfold bg at g;grind
def aa(a:Lh)(i:Int):Int:=match nth a i.toNat with|some (.int _ n)=>n|_=>0
def az(a:Lh)(i:Int):Bool:=match nth a i.toNat with|some (.bool b)=>b|_=>false
def y7:Operand->Nat
 | .tmp t=>t
 |_=>0
def qd(E:Env)(A:AH)(ρ:Operand->Lj)(b:TypeId)(a:Op):Option (Ll×Value):=match quiet E A ρ b a with|some v=>some (none,v)|none=>none
def sxIdx(E:Env)(A:AH)(ρ:Operand->Lj)(ty:TypeId)(t:TypeId)(x i:Operand):Option (Ll×Value):=
 match ρ x with
 | some (.func (.yield sz) ⟨els⟩ ⟨[]⟩)=>(match ρ i,und E t with
   | some (.int _ n),some (.slice e)=>(match E.ti e with
     |some ie=>bif Nat.beq ie.size sz&&Nat.blt 0 sz then some (some (0<=n/\n<els.length),.func (.yield sz) ⟨els⟩ ⟨[.int .i64 n.toNat,.int .i64 (0:Nat)]⟩)else none
     |none=>none)
   |_,_=>none)
 | some (.slice (some ⟨B,o,none⟩) n m)=>(match isG m with
   | true=>(match ρ i,und E t with
     | some (.int _ k),some (.slice e)=>(match E.ti e with
       |some ie=>bif Nat.beq ie.size (gsz m)&&Nat.blt 0 (gsz m)then some (some (0<=k/\k<n),gPtr (gsz m) B (gIdx (gsz m) o k.toNat) 0)else none
       |none=>none)
     |_,_=>none)
   |false=>qd E A ρ ty (.indexAddr t x i))
 | some (.pointer (some ⟨B,0,none⟩))=>(match ρ i,und E t with
   | some (.int _ k),some (.array len el)=>(match E.ti el with
     |some ie=>bif Nat.beq ie.size 1&&Nat.ble 64 len then some (some (0<=k/\k<len),gPtr 1 B k.toNat 0)else qd E A ρ ty (.indexAddr t x i)
     |none=>none)
   |_,_=>qd E A ρ ty (.indexAddr t x i))
 |_=>qd E A ρ ty (.indexAddr t x i)
def AA(E:Env)(el:El)(A:AH)(ρ:Operand->Lj)(ty:TypeId)(t:TypeId)(a:Operand):Option (Ll×Value):=
 match ρ a with
 | some (.func (.yield sz) ⟨els⟩ ⟨[.int .i64 i,.int .i64 j]⟩)=>(match el.at' sz (y7 a) els i with
   |some u=>(match ldat E t [u] 0 j.toNat with|some v=>some (some (nth els i.toNat=some u),v)|none=>none)
   |none=>qd E A ρ ty (.load t a))
 | some (.func (.yield sz) ⟨[.pointer (some ⟨B,0,none⟩)]⟩ ⟨[.int .i64 i,.int .i64 j,.bool true]⟩)=>(match A.t.get B with
   | some (.gro els tl e)=>(match E.ti e,el.at' sz (y7 a) (glue els tl) i with
     |some ie,some u=>bif Nat.beq ie.size sz then(match ldat E t [u] 0 j.toNat with|some v=>some (some (nth (glue els tl) i.toNat=some u),v)|none=>none)else none
     |_,_=>none)
   | some (.arr els rest n e)=>(match und E t,el.at' 1 (y7 a) els i with
     |some d,some u=>bif br d|| !(Nat.beq sz 1&&Nat.beq j.toNat 0)then none else some (some (nth els i.toNat=some u),u)
     |_,_=>none)
   |_=>qd E A ρ ty (.load t a))
 |_=>qd E A ρ ty (.load t a)
def NZ(b:Int):Prop:=b≠0
def yx(E:Env)(A:AH)(ρ:Operand->Lj)(ty:TypeId)(op:BinOp)(t:TypeId)(x y:Operand)(t2:TypeId)(f:IntKind->Int->Int->Int):Option (Ll×Value):=
 match ρ x with
 | some (.int k a)=>(match ρ y with
   |some (.int k' b)=>bif dp k k' then some (some (NZ b),.int k (f k a b))else none
   |_=>none)
 |_=>qd E A ρ ty (.binOp op t x y t2)
def subB(s:ByteArray)(a b:Int):ByteArray:=av ((s.data.toList.drop a.toNat).take (b.toNat-a.toNat))
def Cu(E:Env)(ρ:Operand->Lj)(t:TypeId)(s:ByteArray)(lo hi mx:Option Operand):Option (Ll×Value):=
 match mx,und E t with
 | none,some .string=>(match lo,hi with
   |none,some h=>(match ρ h with|some (.int _ b)=>some (some (0<=b/\b<=s.size),.string (subB s 0 b))|_=>none)
   |some l,none=>(match ρ l with|some (.int _ a)=>some (some (0<=a/\a<=s.size),.string (subB s a s.size))|_=>none)
   |some l,some h=>(match ρ l,ρ h with|some (.int _ a),some (.int _ b)=>some (some (0<=a/\a<=b/\b<=s.size),.string (subB s a b))|_,_=>none)
   |none,none=>none)
 |_,_=>none
def sxSli (E:Env)(A:AH)(ρ:Operand->Lj)(ty:TypeId)(t:TypeId)(x:Operand)(lo hi mx:Option Operand):Option (Ll×Value):=
 match ρ x with
 | some (.func (.yield sz) ⟨els⟩ ⟨[]⟩)=>(match mx,lo,hi with
   | none,none,some h=>(match ρ h,und E t with
     | some (.int _ b),some (.slice e)=>(match E.ti e with
       |some ie=>bif Nat.beq ie.size sz then some (some (0<=b/\b<=els.length),.func (.yield sz) ⟨els.take b.toNat⟩ ⟨[]⟩)else none
       |none=>none)
     |_,_=>none)
   | none,some l,none=>(match ρ l,und E t with
     | some (.int _ a),some (.slice e)=>(match E.ti e with
       |some ie=>bif Nat.beq ie.size sz then some (some (0<=a/\a<=els.length),.func (.yield sz) ⟨els.drop a.toNat⟩ ⟨[]⟩)else none
       |none=>none)
     |_,_=>none)
   |_,_,_=>qd E A ρ ty (.slice t x lo hi mx))
 | some (.slice (some ⟨B,o,none⟩) n m)=>(match isG m with
   | true =>(match und E t with
     | some (.slice e)=>(match E.ti e with
       | some ie=>bif Nat.beq ie.size (gsz m)&&Nat.blt 0 (gsz m)then(match mx,lo,hi with
         |none,none,none=>some (none,.slice (some ⟨B,o,none⟩) n m)
         |none,none,some h=>(match ρ h with|some (.int _ b)=>some (some (0<=b/\b<=n),.slice (some ⟨B,o,none⟩) b.toNat m)|_=>none)
         |none,some l,none=>(match ρ l with|some (.int _ a)=>some (some (0<=a/\a<=n),.slice (some ⟨B,gOff (gsz m) o a.toNat,none⟩) (n-a.toNat) m)|_=>none)
         |some z,none,some h=>(match ρ h,ρ z with|some (.int _ b),some (.int _ q)=>some (some (0<=b/\b<=q/\q<=n),.slice (some ⟨B,o,none⟩) b.toNat m)|_,_=>none)
         |none,some l,some h=>(match ρ l,ρ h with|some (.int _ a),some (.int _ b)=>some (some (0<=a/\a<=b/\b<=n),.slice (some ⟨B,gOff (gsz m) o a.toNat,none⟩) (b.toNat-a.toNat) m)|_,_=>none)
         |_,_,_=>none)else none
       |none=>none)
     |_=>none)
   |false=>qd E A ρ ty (.slice t x lo hi mx))
 |some (.string s)=>Cu E ρ t s lo hi mx
 |_=>qd E A ρ ty (.slice t x lo hi mx)
def bY (E:Env)(t:TypeId)(es:Lc)(k:Value):Option (Value×Bool):=
 match und E t with
 | some (.map kt et)=>bif flat k&&gN E es.isEmpty kt k then
  (match iH E kt k es with
  |some (some (_,v))=>some (v,true)
  | some none=>(match E.ti et with
    | some i=>(match i.zero with
      |some z=>bif flat z then some (z,false)else none
      |none=>none)
    |none=>none)
  |none=>none)else none
 |_=>none
def sxLk(E:Env)(el:El)(A:AH)(ρ:Operand->Lj)(ty:TypeId)(t:TypeId)(x i:Operand)(cok:Bool):Option (Ll×Value):=
 match ρ x with
 | some (.map (some B))=>(match A.t.get B,ρ i with
   | some (.map es _),some k=>(match el.ml t es k with
     |some r=>some (some (bY E t es k=some r),bif cok then .tuple ⟨[r.1,.bool r.2]⟩else r.1)
     |none=>qd E A ρ ty (.lookup t x i cok))
   |_,_=>none)
 |_=>qd E A ρ ty (.lookup t x i cok)
theorem minI(a b:Int):(if b<a then b else a)=min a b:=by rw[Int.min_def];split<;>split<;>omega
theorem maxI(a b:Int):(if b>a then b else a)=max a b:=by rw[Int.max_def];split<;>split<;>omega
theorem vi{c:Call}{k h:IntKind}{a b:Int}(f:c.callee=.builtin .min)(i:mapO ρ c.args.toList=some [.int k a,.int h b]):quiet E A ρ ty (.call c)=some (.int k (min a b)):=by
 have g:bm E A ρ ty (.call c)=some (.int k (min a b)):=by simp only[bm,f,jY,i];rw[<-minI a b];rfl
 unfold quiet;split;exact g;have:symQ E ρ (.call c)=none:=by simp[symQ,f]
 rw[this];exact g
theorem vj{c:Call}{k h:IntKind}{a b:Int}(f:c.callee=.builtin .max)(i:mapO ρ c.args.toList=some [.int k a,.int h b]):quiet E A ρ ty (.call c)=some (.int k (max a b)):=by
 have g:bm E A ρ ty (.call c)=some (.int k (max a b)):=by simp only[bm,f,jY,i];rw[<-maxI a b];rfl
 unfold quiet;split;exact g;have:symQ E ρ (.call c)=none:=by simp[symQ,f]
 rw[this];exact g
def sxBlt(E:Env)(A:AH)(ρ:Operand->Lj)(ty:TypeId)(c:Call):Option (Ll×Value):=
 match c.callee with
 | .builtin .min=>(match mapO ρ c.args.toList with
   |some [.int k a,.int _ b]=>some (none,.int k (min a b))
   |_=>qd E A ρ ty (.call c))
 | .builtin .max=>(match mapO ρ c.args.toList with
   |some [.int k a,.int _ b]=>some (none,.int k (max a b))
   |_=>qd E A ρ ty (.call c))
 | .builtin _=>qd E A ρ ty (.call c)
 |_=>none
def aY(s:ByteArray)(i:Int):Int:=match nth s.data.toList i.toNat with|some b=>(b.toNat:Int)|none=>0
def sxIx(E:Env)(A:AH)(ρ:Operand->Lj)(ty:TypeId)(t:TypeId)(x i:Operand):Option (Ll×Value):=
 match ρ x with
 | some (.string s)=>(match ρ i,und E t with
   |some (.int _ n),some .string=>some (some (0<=n/\n<s.size),.int .u8 (aY s n))
   |_,_=>none)
 |_=>qd E A ρ ty (.index t x i)
def u8L(c:Lh)(o n:Nat):List UInt8:=((c.drop o).take n).map λv=>match v with| .int _ k=>UInt8.ofNat k.toNat|_=>0
def IsB(c:Lh)(o n:Nat):Prop:=∃ bs:List UInt8,(c.drop o).take n=bs.map (λb=>Value.int .u8 b.toNat)/\bs.length=n
theorem lM:∀ bs:List UInt8,kG (bs.map λb=>Value.int .u8 b.toNat)=some bs
 | []=>rfl
 |b::bs=>by simp[kG,lM bs]
theorem Ax(bs:List UInt8):(bs.map λb=>Value.int .u8 b.toNat).map (λv=>match v with| .int _ k=>UInt8.ofNat k.toNat|_=>0)=bs:=by
 rw[H4];conv=>rhs;rw[<-IC bs]
 exact HQ λx _=>by simp
theorem wq(h:IsB c o n):∃ bs:List UInt8,(c.drop o).take n=bs.map (λb=>Value.int .u8 b.toNat)/\bs.length=n/\u8L c o n=bs:=by obtain⟨bs,f,a⟩:=h;grind [u8L,Ax]
def sxCv(E:Env)(el:El)(A:AH)(ρ:Operand->Lj)(ty:TypeId)(s t:TypeId)(x:Operand):Option (Ll×Value):=
 match el.app,ρ x with
 | true,some (.slice (some ⟨B,o,none⟩) n k)=>(match isG k,und E s,und E t,A.t.get B with
   | false,some (.slice e),some .string,some (.cells c _)=>(match und E e with
     |some (.int .u8)=>some (some (IsB c o n),.string (av (u8L c o n)))
     |_=>none)
   |true,_,_,_=>none
   |_,_,_,_=>qd E A ρ ty (.convert s t x))
 |_,_=>qd E A ρ ty (.convert s t x)
def sxAdd(E:Env)(A:AH)(ρ:Operand->Lj)(ty:TypeId)(t:TypeId)(x y:Operand)(t2:TypeId):Option (Ll×Value):=
 match ρ x with
 | some (.string a)=>(match ρ y with
   |some (.string b)=>some (some (a.data.toList.length+b.data.toList.length<=4611686018427387904),.string (av (a.data.toList++b.data.toList)))
   |_=>none)
 |_=>qd E A ρ ty (.binOp .add t x y t2)
def sxQ(E:Env)(el:El)(A:AH)(ρ:Operand->Lj)(ty:TypeId)(op:Op):Option (Ll×Value):=
 match op with
 | .indexAddr t x i=>sxIdx E A ρ ty t x i
 | .load t a=>AA E el A ρ ty t a
 | .slice t x lo hi mx=>sxSli E A ρ ty t x lo hi mx
 | .binOp op t x y t2=>(match op with
   | .quo=>yx E A ρ ty .quo t x y t2 (λk a b=>k.wrap (a.tdiv b))
   | .rem=>yx E A ρ ty .rem t x y t2 (λk a b=>a.tmod b)
   | .add=>sxAdd E A ρ ty t x y t2
   |op=>qd E A ρ ty (.binOp op t x y t2))
 | .call c=>sxBlt E A ρ ty c
 | .lookup t x i cok=>sxLk E el A ρ ty t x i cok
 | .index t x i=>sxIx E A ρ ty t x i
 | .convert s t x=>sxCv E el A ρ ty s t x
 |op=>qd E A ρ ty op
theorem cT(b:E.sym=true){a:Op}(f:symQ E ρ a=none)(h:groQ E A ρ a=some v):quiet E A ρ ty a=some v:=by unfold quiet;rw[b];simp only[f,h]
theorem fe(b:E.sym=true){a:Op}(i:symQ E ρ a=none)(g:groQ E A ρ a=none)(h:bm E A ρ ty a=some v)(f:arrQ E A ρ a=none:=by rfl):quiet E A ρ ty a=some v:=by grind [quiet]
theorem nX(b:E.sym=true){a:Op}(g:symQ E ρ a=none)(f:groQ E A ρ a=none)(h:arrQ E A ρ a=some v):quiet E A ρ ty a=some v:=by unfold quiet;rw[b];simp only[g,f,h]
theorem zA{es:Lc}{cl:Nat}{k:Value}{r:Value×Bool}{a:Bool}(b:A.t.get B=some (.map es cl))(h:bY E t es k=some r):
 gq E A t (.map (some B)) k a=some (bif a then .tuple ⟨[r.1,.bool r.2]⟩else r.1):=by unfold bY at h;unfold gq;grind
theorem cU{a:Op}(h:qd E A ρ ty a=some (p,v)):quiet E A ρ ty a=some v:=by grind [qd,osI,Hs]
theorem yL(f:E.sym=true){x i:Operand}{k:IntKind}{n:Int}(a:ρ x=some (.string s))(j:ρ i=some (.int k n))(b:und E t=some .string)(l:0<=n)(q:n<s.size):quiet E A ρ ty (.index t x i)=some (.int .u8 (aY s n)):=by
 refine fe f rfl rfl ?_;have h:n.toNat<s.data.toList.length:=by simp_all
 have g:nth s.data.toList n.toNat=some s.data.toList[n.toNat]:=by rw[aP];exact Hr h
 simp only[bm,a,j,lp,b,l,IZ,C',g,aY]
theorem yw(G:E.sym=true){x:Operand}{lo z y:Option Operand}(f:ρ x=some (.string s))(h:Cu E ρ t s lo z y=some (p,v))(l:PH p):quiet E A ρ ty (.slice t x lo z y)=some v:=by
 have u:Nat.ble s.size s.size=true:=by rw[HA];omega
 unfold Cu at h;split at h;rename_i j;refine fe G (by simp[symQ,f]) (by simp[groQ,f]) ?_;split at h;rename_i H;split at h;rename_i k b q;cases h;obtain⟨g,C⟩:0<=b/\b<=s.size:=l;have i:Nat.ble b.toNat s.size=true:=by rw[HA];omega
 have J:Nat.ble 0 b.toNat=true:=by rw[HA];omega
 simp[bm,f,optA,q,scal,sliA,j,bnds,dc,g,u,i,J,subB];cases h;rename_i D;split at h;rename_i k a r;cases h;obtain⟨g,C⟩:0<=a/\a<=s.size:=l;have i:Nat.ble a.toNat s.size=true:=by rw[HA];omega
 simp[bm,f,optA,r,scal,sliA,j,bnds,dc,g,u,i,subB];cases h;rename_i D H;split at h;rename_i M a L b r q;cases h;obtain⟨g,C,O⟩:0<=a/\a<=b/\b<=s.size:=l;have I:0<=b:=by omega
 have i:Nat.ble a.toNat b.toNat=true:=by rw[HA];omega
 have K:Nat.ble b.toNat s.size=true:=by rw[HA];omega
 simp[bm,f,optA,r,q,scal,sliA,j,bnds,dc,g,I,u,i,K,subB];cases h;cases h;cases h
theorem uF(D:E.sym=true){el:El}{op:Op}(h:sxQ E el A ρ ty op=some (p,v))(z:PH p):quiet E A ρ ty op=some v:=by
 unfold sxQ at h;split at h;rename_i t x i;unfold sxIdx at h;split at h;rename_i sz els l;split at h;rename_i k n e L C;split at h;rename_i ie g;cases f:(Nat.beq ie.size sz&&Nat.blt 0 sz);rw[f]at h;cases h;rw[f]at h;simp only[C',osI,Hs]at h;obtain⟨rfl,rfl⟩:=h;exact vk D l L C g f z.1 z.2;cases h;cases h;rename_i B o n m l;split at h;rename_i M;split at h;rename_i kk k e L C;split at h;rename_i ie g;cases f:(Nat.beq ie.size (gsz m)&&Nat.blt 0 (gsz m));rw[f]at h;cases h;rw[f]at h;simp only[C',osI,Hs]at h;obtain⟨rfl,rfl⟩:=h;obtain⟨H,J⟩:0<=k/\k<(n:Int):=z;refine cT D (by simp[symQ,l]) ?_;simp only[groQ,l,M,L,C,g,f,H,J,IZ,IH,C'];cases h;cases h;exact cU h;rename_i B l;split at h;rename_i kk k U el L C;split at h;rename_i ie g;cases f:(Nat.beq ie.size 1&&Nat.ble 64 U);rw[f]at h;exact cU h;rw[f]at h;simp only[C',osI,Hs]at h;obtain⟨rfl,rfl⟩:=h;obtain⟨H,J⟩:0<=k/\k<(U:Int):=z;refine nX D (by simp[symQ,l]) (by simp[groQ,l]) ?_;simp only[arrQ,l,L,C,g,f,H,J,IZ,IH,C'];cases h;exact cU h;exact cU h;rename_i t a;unfold AA at h;split at h;rename_i sz els i j G;split at h;rename_i u C;split at h;rename_i v0 hv;cases h;exact tn D G z hv;cases h;exact cU h;rename_i sz B i j G;split at h;rename_i els tl e Q;split at h;rename_i ie u g C;cases f:Nat.beq ie.size sz;rw[f]at h;cases h;rw[f]at h;simp only[C']at h;split at h;rename_i v0 hv;cases h;have z:nth (glue els tl) i.toNat=some u:=z;refine cT D (by simp[symQ,G]) ?_;simp only[groQ,G,Q,g,f,C'];grind [ldat,nth];cases h;cases h;rename_i els a1 n e Q;split at h;rename_i d u C a3;cases f:br d|| !(Nat.beq sz 1&&Nat.beq j.toNat 0)with
 |true=>rw[f]at h;cases h
 |false=>rw[f]at h;simp only[HJ,osI,Hs]at h;obtain⟨rfl,rfl⟩:=h;have z:nth els i.toNat=some u:=z;refine nX D (by simp[symQ,G]) (by simp[groQ,G,Q]) ?_;simp only[arrQ,G,Q,C,f,HJ,z]
 cases h;exact cU h;exact cU h
 · rename_i t x lo L mx;unfold sxSli at h;split at h;rename_i sz els l;split at h;rename_i hh;split at h;rename_i k b e K C;split at h;rename_i ie g;cases f:Nat.beq ie.size sz;rw[f]at h;cases h;rw[f]at h;simp only[C',osI,Hs]at h;obtain⟨rfl,rfl⟩:=h;obtain⟨H,J⟩:0<=b/\b<=els.length:=z;have R:b.toNat<=els.length:=by omega
   have I:Nat.ble b.toNat els.length=true:=by rw[HA];exact R
   have O:Nat.ble els.length els.length=true:=by rw[HA];omega
   have Z:Nat.ble 0 b.toNat=true:=by rw[HA];omega
   refine dO D ?_;simp[symQ,l,optA,K,scal,C,bnds,dc,H,I,O,Z,g,f];cases h;cases h;rename_i ll;split at h;rename_i k a e G C;split at h;rename_i ie g;cases f:Nat.beq ie.size sz;rw[f]at h;cases h;rw[f]at h;simp only[C',osI,Hs]at h;obtain⟨rfl,rfl⟩:=h;obtain⟨H,J⟩:0<=a/\a<=els.length:=z;have R:a.toNat<=els.length:=by omega
   have I:Nat.ble a.toNat els.length=true:=by rw[HA];exact R
   have O:Nat.ble els.length els.length=true:=by rw[HA];omega
   refine dO D ?_;simp[symQ,l,optA,G,scal,C,bnds,dc,H,I,O,g,f];cases h;cases h;exact cU h;rename_i B o n m l;split at h;rename_i M;split at h;rename_i e C;split at h;rename_i ie g;cases f:(Nat.beq ie.size (gsz m)&&Nat.blt 0 (gsz m));rw[f]at h;cases h;rw[f]at h;simp only[C']at h;have Y:Nat.ble n n=true:=by rw[HA];omega
   split at h;cases h;refine cT D (by simp[symQ,l]) ?_;have e0:Nat.ble 0 n=true:=by rw[HA];omega
   simp[groQ,l,M,optA,C,bnds,dc,Y,e0,g,f,mT];split at h;rename_i hh k b K;cases h;obtain⟨H,J⟩:0<=b/\b<=(n:Int):=z;have I:Nat.ble b.toNat n=true:=by rw[HA];omega
   have Z:Nat.ble 0 b.toNat=true:=by rw[HA];omega
   refine cT D (by simp[symQ,l]) ?_;simp[groQ,l,M,optA,K,scal,C,bnds,dc,H,Y,I,Z,g,f,mT];cases h;split at h;rename_i ll k a G;cases h;obtain⟨H,J⟩:0<=a/\a<=(n:Int):=z;have I:Nat.ble a.toNat n=true:=by rw[HA];omega
   refine cT D (by simp[symQ,l]) ?_;simp[groQ,l,M,optA,G,scal,C,bnds,dc,H,Y,I,g,f];cases h;split at h;rename_i zz hh k1 b k2 q K hq;cases h;obtain⟨H,J,R⟩:0<=b/\b<=q/\q<=(n:Int):=z;have X:0<=q:=by omega
   have I:Nat.ble b.toNat q.toNat=true:=by rw[HA];omega
   have O:Nat.ble q.toNat n=true:=by rw[HA];omega
   have Z:Nat.ble 0 b.toNat=true:=by rw[HA];omega
   refine cT D (by simp[symQ,l]) ?_;simp[groQ,l,M,optA,K,hq,scal,C,bnds,dc,H,X,Y,I,O,Z,g,f,mT];cases h;split at h;rename_i ll hh k1 a k2 b G K;cases h;obtain⟨H,J,R⟩:0<=a/\a<=b/\b<=(n:Int):=z;have X:0<=b:=by omega
   have I:Nat.ble a.toNat b.toNat=true:=by rw[HA];omega
   have O:Nat.ble b.toNat n=true:=by rw[HA];omega
   refine cT D (by simp[symQ,l]) ?_;simp[groQ,l,M,optA,G,K,scal,C,bnds,dc,H,X,Y,I,O,g,f];cases h;cases h;cases h;cases h;exact cU h;all_goals grind [yw,cU]
 rename_i op t x y t2;split at h;unfold yx at h;split at h;rename_i k a l;split at h;rename_i V b hy;cases S:dp k V;rw[S]at h;cases h;rw[S]at h;simp only[C',osI,Hs]at h;obtain⟨rfl,rfl⟩:=h;have K:b≠0:=z;grind [dp,vh];cases h;exact cU h;unfold yx at h;split at h;rename_i k a l;split at h;rename_i V b hy;cases S:dp k V;rw[S]at h;cases h;rw[S]at h;simp only[C',osI,Hs]at h;obtain⟨rfl,rfl⟩:=h;have K:b≠0:=z;grind [dp,vg];cases h;exact cU h;unfold sxAdd at h;split at h;rename_i a l;split at h;rename_i b hy;cases h;have z:a.data.toList.length+b.data.toList.length<=4611686018427387904:=z;refine fe D (by simp[symQ,l]) (by simp[groQ]) ?_;have I:Nat.ble (a.data.toList.length+b.data.toList.length) 4611686018427387904=true:=by rw[HA];exact z
 simp only[bm,l,hy,binA,gu,strO,I,C'];cases h;exact cU h;exact cU h;rename_i c;unfold sxBlt at h;split at h;rename_i hc;split at h;rename_i k a V b G;cases h;exact vi hc G;exact cU h;rename_i hc;split at h;rename_i k a V b G;cases h;exact vj hc G;exact cU h;exact cU h;cases h;rename_i t x i a4;unfold sxLk at h;split at h;rename_i B l;split at h;rename_i es cl k Q S;split at h;rename_i r hr;cases h;have z:bY E t es k=some r:=z;refine fe D (by simp[symQ]) (by simp[groQ]) ?_;grind [bm,zA];exact cU h;cases h;exact cU h;rename_i t x i;unfold sxIx at h;split at h;rename_i s l;split at h;rename_i k n L C;cases h;obtain⟨H,J⟩:0<=n/\n<s.size:=z;exact yL D l L C H J;cases h;exact cU h;rename_i s t x;unfold sxCv at h;split at h;rename_i B o n k a2 l;split at h;rename_i e c O M a0 ht Q;split at h;rename_i he;cases h;obtain⟨bs,J,R,X⟩:=wq z;refine fe D (by simp[symQ,l]) (by simp[groQ]) ?_;rw[X];simp only[bm,l,Ad,a0,ht,he];cases hn:Nat.beq n 0 with
 |true=>simp_all
 | false=>
  have hl:gr A B o n=some (bs.map λb=>Value.int .u8 b.toNat):=by
   have I:Nat.beq (bs.map λb=>Value.int .u8 b.toNat).length n=true:=by rw[Hy];simp[R]
   simp only[gr,look,Q,J,I,C']
  simp only[HJ,hl,lM]
 cases h;cases h;exact cU h;exact cU h;exact cU h
def putK(n:Nat)(F:T Value)(a:Option Tmp)(v:Value)(k:T Value->Prop):Prop:=match put n F a v with|some F'=>k F'|none=>False
def setK(F:T Value)(d:Nat)(v:Value)(k:T Value->Prop):Prop:=match T.set FU F d v with|some F'=>k F'|none=>False
theorem pj{k:T Value->Prop}(h:setK F d v k):∃ a,T.set FU F d v=some a/\k a:=by grind [setK]
def sxG (ops:List Oper)(F:T Value)(o:Oper)(kT kF:T Value->Prop):Prop:=
 match o.guard with
 |none=>kT F
 | some (j,want)=>(match nth ops j with
   | some oj=>(match oj.dst with
     | some d=>(match slot F d with
       |some (.bool b)=>Sp b (setK F d (.bool true) (λF'=>Bool.rec (motive:=λ_=>Prop) (kF F') (kT F') want)) (setK F d (.bool false) (λF'=>Bool.rec (motive:=λ_=>Prop) (kT F') (kF F') want))
       |some _=>kF F
       |none=>False)
     |none=>kF F)
   |none=>kF F)
theorem AB{ops:List Oper}{o:Oper}{r u:T Value->Prop}(h:sxG ops F o r u):(ct ops F o=some true/\r F)∨(ct ops F o=some false/\u F):=by
 unfold sxG at h;unfold ct;split at h;grind;rename_i j a z;rw[z];simp only;split at h;rename_i D y;rw[y];simp only;split at h
 · rename_i d hd;rw[hd];simp only;split at h;rename_i b g;rw[g];simp only;unfold slot at g;rcases h.cases with⟨i,q⟩|⟨i,q⟩;obtain⟨C,l,f⟩:=pj q;rw[i]at g ⊢;rw[cJ _ _ _ _ _ g l]at f;cases a with
   |true=>exact .inl ⟨rfl,f⟩
   |false=>exact .inr ⟨rfl,f⟩
   obtain⟨C,l,f⟩:=pj q;rw[i]at g ⊢;rw[cJ _ _ _ _ _ g l]at f;cases a with
   |true=>exact .inr ⟨rfl,f⟩
   |false=>exact .inl ⟨rfl,f⟩
   all_goals grind
 grind;grind
def appS(E:Env)(A:AH)(a:List TypeId)(B b:Nat)(x:Value):Option (Ll×Value×AH):=bif E.sym then none else none
theorem Ha{a:Nat}(h:appS E A ts B a x=some (p,v,A'))(f:PH p):eM E A ts (.slice (some ⟨B,o,none⟩) a unk) x=some (v,A'):=by unfold appS at h;cases b:E.sym<;>rw[b]at h<;>cases h
def wN (E:Env)(el:El)(A:AH)(t:TypeId)(B sz:Nat)(i j:Int)(v:Value)(s:Nat):Option (Ll×Value×AH):=
 match E.ti t,A.t.get B with
 | some ti,some (.gro els0 tl e)=>(match E.ti e with
   | some ie=>bif (Nat.beq ie.size sz&&Nat.beq v.cells.toList.length ti.size)&&v.cells.toList.all cellv then
    (match Nat.beq v.cells.toList.length sz&&Nat.beq j.toNat 0 with
    |true=>(match T.set FU A.t B (.gro ((glue els0 tl).set i.toNat v) [] e)with|some t=>some (some (i.toNat<(glue els0 tl).length),undef,⟨t,A.next⟩)|none=>none)
    | false=>(match el.at' sz s (glue els0 tl) i with
      | some u=>bif Nat.ble (j.toNat+v.cells.toList.length) sz&& !Nat.beq v.cells.toList.length sz then
       (match T.set FU A.t B (.gro ((glue els0 tl).set i.toNat (.agg ⟨over u.cells.toList j.toNat v.cells.toList⟩)) [] e)with|some t=>some (some (nth (glue els0 tl) i.toNat=some u),undef,⟨t,A.next⟩)|none=>none)else none
      |none=>none))
    else none
   |none=>none)
 |_,_=>none
theorem wM{G:El}{i j:Int}{s:Nat}(h:wN E G A t B sz i j v s=some (p,v2,A'))(b:PH p):eE E A t B sz i.toNat j.toNat v=some A'/\v2=undef:=by
 unfold wN at h;unfold eE;split at h;rename_i r f tl e g D;rw[g,D];simp only;generalize glue f tl=els at h ⊢;split at h;rename_i ie l;rw[l];cases q:(Nat.beq ie.size sz&&Nat.beq v.cells.toList.length r.size)&&v.cells.toList.all cellv;rw[q]at h;simp at h;rw[q]at h;simp only[C']at h;simp only[f']at q;split at h;rename_i y;simp only[f',Hy]at y;split at h;rename_i t2 z;cases h;have b:i.toNat<els.length:=b;have C:nth els i.toNat=some els[i.toNat]:=by rw[aP];exact Hr b
 rw[C];have J:Nat.ble (j.toNat+v.cells.toList.length) sz=true:=by rw[HA];omega
 have H:nJ els[i.toNat] v sz j.toNat=v:=by grind [nJ,Nat.beq,Hy]
 grind;cases h;split at h;rename_i u I;cases a:(Nat.ble (j.toNat+v.cells.toList.length) sz&& !Nat.beq v.cells.toList.length sz);rw[a]at h;simp at h;rw[a]at h;simp only[C']at h;simp only[f',JA]at a;split at h;rename_i t2 z;cases h;have b:nth els i.toNat=some u:=b;rw[b];have H:nJ u v sz j.toNat=.agg ⟨over u.cells.toList j.toNat v.cells.toList⟩:=by grind [nJ]
 grind;cases h;cases h;cases h;cases h
def srcS(E:Env)(A:AH)(e:TypeId)(sz:Nat)(x:Value):Option (Ll×Lh):=
 match x with
 | .slice (some ⟨B,o,none⟩) n m=>(match isG m with
   | true=>(match A.t.get B with
     | some (.gro els tl e2)=>(match E.ti e2 with
       |some ie=>bif (Nat.beq ie.size sz&&Nat.beq (gsz m) sz)&&Nat.blt 0 sz then some (some (n+gLo sz o<=(glue els tl).length),((glue els tl).drop (gLo sz o)).take n)else none
       |none=>none)
     |_=>none)
   |false=>(match srcG E A e sz (.slice (some ⟨B,o,none⟩) n m)with|some l=>some (none,l)|none=>none))
 |x=>(match srcG E A e sz x with|some l=>some (none,l)|none=>none)
theorem CJ{l:Lh}(h:srcS E A e sz x=some (p,l))(b:PH p):srcG E A e sz x=some l:=by
 unfold srcS at h;split at h;rename_i B o n m;split at h;rename_i g;split at h;rename_i els tl q i;split at h;rename_i ie f;cases a:(Nat.beq ie.size sz&&Nat.beq (gsz m) sz)&&Nat.blt 0 sz;rw[a]at h;simp at h;rw[a]at h;simp only[C',osI,Hs]at h;obtain⟨rfl,rfl⟩:=h;have b:n+gLo sz o<=(glue els tl).length:=b;simp only[f']at a;have j:Nat.ble (n+gLo sz o) (glue els tl).length=true:=by rw[HA];exact b
 simp only[srcG,g,i,f,a.1.1,a.1.2,a.2,j,IH,C'];cases h;cases h;grind;grind
def pX (E : Env)(A:AH)(ts:List TypeId)(B o n m:Nat)(x:Value):Option (Ll×Value×AH):=
 match ts with
 | [t, tx] => (match und E t,und E tx with
   | some (.slice e),some dx=>(match E.ti e,A.t.get B with
     | some ie, some (.gro els tl eb)=>(match ie.zero,srcS E A e ie.size x with
       | some z,some s=>
         bif (cI dx&&(Nat.beq z.cells.toList.length ie.size&&Nat.blt 0 ie.size))&&(Nat.beq eb e&&(Nat.beq (gsz m) ie.size&&isG m))then
             (match T.set FU A.t B .dead with
             | some t'=>(match T.set FU t' A.next (.gro (oF o (gLo ie.size o) (glue els tl)) s.2 e)with
               |some t''=>some (some (pc s.1 ((ap s.2).all cellv=true/\n+gLo ie.size o=(glue els tl).length/\n+s.2.length<=70368744177664/\(n+s.2.length)*ie.bytes<=140737488355328)),.slice (some ⟨A.next,0,none⟩) (n+s.2.length) m,⟨t'',A.next+1⟩)
               |none=>none)
             |none=>none)
         else none
       |_,_=>none)
     |_,_=>none)
   |_,_=>none)
 |_=>none
theorem tU(h:pX E A ts B o n m x=some (p,v,A'))(D:PH p):oy E A ts B o n m x=some (v,A'):=by
 unfold pX at h;unfold oy;split at h;rename_i t M;simp only;split at h;rename_i e I u f;rw[u,f];simp only;split at h;rename_i ie a b H j G;rw[j,G];simp only;generalize glue a b=els at h ⊢;split at h;rename_i z s r C;rw[r];cases q:(cI I&&(Nat.beq z.cells.toList.length ie.size&&Nat.blt 0 ie.size))&&(Nat.beq H e&&(Nat.beq (gsz m) ie.size&&isG m));rw[q]at h;simp at h;rw[q]at h;simp only[C']at h;split at h;rename_i t1 y;split at h;rename_i t2 g;cases h;obtain⟨i,S,L,K,J⟩:=di (show pc s.1 _ from D);rw[CJ (p:=s.1) (l:=s.2) C i];rw[sv]at g;have R:Nat.beq (n+gLo ie.size o) els.length=true:=by rw[Hy];exact L
 have Q:Nat.ble (n+s.2.length) 70368744177664=true:=by rw[HA];exact K
 have O:Nat.ble ((n+s.2.length)*ie.bytes) 140737488355328=true:=by rw[HA];exact J
 grind;cases h;cases h;cases h;cases h;cases h;cases h
def mL(E:Env)(A:AH)(a:List TypeId)(B o n m:Nat)(x:Value):Option (Ll×Value×AH):=bif E.sym then none else none
theorem pY(h:mL E A ts B o n m x=some (p,v,A'))(b:PH p):mM E A ts B o n m x=some (v,A'):=by unfold mL at h;cases a:E.sym<;>rw[a]at h<;>cases h
def aR(E:Env)(t:TypeId)(es:Lc)(clock:Nat)(k v:Value):Option (Lc×Nat):=
 match und E t with
 | some (.map kt et)=>bif flat k&&gN E false kt k then
  (match iH E kt k es with
  |some none=>some (es++[(k,v,clock)],clock+1)
  | some (some (i,_))=>(match nth es i with
    |some (key,_,born)=>bif Instr.sameBits 10000 key k then some (es.set i (k,v,born),clock)else none
    |none=>none)
  |none=>none)else none
 |_=>none
theorem tF{es b:Lc}{a c':Nat}{k:Value}(f:A.t.get B=some (.map es a))(h:aR E t es a k v=some (b,c')):gn E A t (.map (some B)) k v=setA A B (.map b c'):=by unfold aR at h;unfold gn;grind
def zt(E:Env)(el:El)(A:AH)(t:TypeId)(B:Nat)(k v:Value):Option (Ll×Value×AH):=
 match A.t.get B with
 | some (.map es clock)=>(match el.mu t es clock k v with
   |some r=>(match setA A B (.map r.1 r.2)with|some A'=>some (some (aR E t es clock k v=some r),undef,A')|none=>none)
   |none=>none)
 |_=>none
theorem rq{j:El}{k:Value}(h:zt E j A t B k v=some (p,v2,A'))(b:PH p):gn E A t (.map (some B)) k v=some A'/\v2=undef:=by unfold zt at h;split at h;rename_i i a f;split at h;rename_i r l;split at h;rename_i q g;cases h;have b:aR E t i a k v=some (r.1,r.2):=b;rw[tF f b];exact⟨g,rfl⟩;cases h;cases h;cases h
def delE(E:Env)(t:TypeId)(es:Lc)(k:Value):Option Lc:=
 match und E t with
 | some (.map kt et)=>bif flat k then bif gN E es.isEmpty kt k then(match iH E kt k es with
   |some none=>some es
   |some (some (i,_))=>some (es.eraseIdx i)
   |none=>none)else none else none
 |_=>none
def delS(E:Env)(el:El)(A:AH)(ts:List TypeId)(B:Nat)(k:Value):Option (Ll×Value×AH):=
 match ts with
 | t ::_=>(match A.t.get B with
   | some (.map es clock)=>(match el.md t es k with
     |some es2=>(match setA A B (.map es2 clock)with|some A'=>some (some (delE E t es k=some es2),undef,A')|none=>none)
     |none=>none)
   |_=>none)
 |_=>none
theorem Gu{j:El}{k:Value}(h:delS E j A ts B k=some (p,v2,A'))(a:PH p):delA E A ts (.map (some B)) k=some A'/\v2=undef:=by unfold delS at h;split at h;rename_i t g;split at h;rename_i i f q;split at h;rename_i b l;split at h;rename_i u r;cases h;have a:delE E t i k=some b:=a;refine⟨?_,rfl⟩;unfold delE at a;unfold delA;grind;cases h;cases h;cases h;cases h
def wP(E:Env)(A:AH)(a:List TypeId)(B o n m e c b d:Nat):Option (Ll×Value×AH):=bif E.sym then none else none
theorem wO{o2 a b:Nat}(h:wP E A ts B o n m B2 o2 a b=some (p,v,A'))(g:PH p):mK E A ts B o n m B2 o2 a b=some (v,A'):=by unfold wP at h;cases f:E.sym<;>rw[f]at h<;>cases h
def sxUs(E:Env)(A:AH)(a:List TypeId)(p n:Value):Option (Ll×Value×AH):=bif E.sym then none else none
theorem Ct{a:List TypeId}{p n:Value}{q:Ll}(h:sxUs E A a p n=some (q,v,A'))(f:PH q):yp E A a p n=some (v,A'):=by unfold sxUs at h;cases b:E.sym<;>rw[b]at h<;>cases h
def x9(E:Env)(A:AH)(t:TypeId)(B sz:Nat)(i j:Int)(v:Value):Option (Ll×Value×AH):=
 match A.t.get B with
 | some (.arr els rest n e)=>(match E.ti t,v.cells.toList with
   | some ti,[x]=>bif (Nat.beq sz 1&&Nat.beq j.toNat 0)&&(Nat.beq ti.size 1&&cellv x)then
    (match T.set FU A.t B (.arr (els.set i.toNat x) rest n e)with|some t=>some (some (i.toNat<n),undef,⟨t,A.next⟩)|none=>none)else none
   |_,_=>none)
 |_=>none
theorem x8{i j:Int}(h:x9 E A t B sz i j v=some (p,v2,A'))(b:PH p):
 iN E A t (.func (.yield sz) ⟨[.pointer (some ⟨B,0,none⟩)]⟩ ⟨[.int .i64 i,.int .i64 j,.bool true]⟩) v=some A'/\v2=undef:=by
 unfold x9 at h;split at h;rename_i els g n e r;have u:jK E A t (.func (.yield sz) ⟨[.pointer (some ⟨B,0,none⟩)]⟩ ⟨[.int .i64 i,.int .i64 j,.bool true]⟩) v=none:=by show eE E A t B sz i.toNat j.toNat v=none;grind [eE]
 unfold iN;rw[u];simp only[jt,r];split at h;rename_i l x a q;rw[a,q];simp only;cases f:(Nat.beq sz 1&&Nat.beq j.toNat 0)&&(Nat.beq l.size 1&&cellv x);rw[f]at h;simp at h;rw[f]at h;simp only[C']at h;simp only[f']at f;split at h;rename_i t2 y;cases h;have b:i.toNat<n:=b;have z:Nat.blt i.toNat n=true:=by rw[Iv];exact b
 grind;cases h;cases h;cases h
def isArr(A:AH)(B:Nat):Bool:=match A.t.get B with|some (.arr ..)=>true|_=>false
def sxG1 (E:Env)(el:El)(A:AH)(ρ:Operand->Lj)(op:Op):Option (Ll×Value×AH):=
 match op with
 | .store t a x=>(match ρ a,ρ x with
   | some (.func (.yield sz) ⟨[.pointer (some ⟨B,0,none⟩)]⟩ ⟨[.int .i64 i,.int .i64 j,.bool true]⟩),some v=>(match isArr A B with
     |true=>x9 E A t B sz i j v
     |false=>wN E el A t B sz i j v (y7 a))
   |_,_=>none)
 | .mapUpdate t m k x=>(match ρ m,ρ k,ρ x with|some (.map (some B)),some k,some v=>zt E el A t B k v|_,_,_=>none)
 | .insert t m k x=>(match ρ m,ρ k,ρ x with|some (.map (some B)),some k,some v=>zt E el A t B k v|_,_,_=>none)
 | .call c=>(match c.callee with
   | .builtin .append=>(match c.args.toList with
     | [x,y]=>(match ρ x,ρ y with
       | some (.slice (some ⟨B,o,none⟩) sl sk),some src=>(match isG sk with
         |true=>bif C4 B src then mL E A c.argTypes.toList B o sl sk src else pX E A c.argTypes.toList B o sl sk src
         |false=>bif el.app&&Nat.beq sk unk then appS E A c.argTypes.toList B sl src else none)
       |_,_=>none)
     |_=>none)
   | .builtin .copy=>(match c.args.toList with
     | [x,y]=>(match ρ x,ρ y with
       | some (.slice (some ⟨B,o,none⟩) n m),some (.slice (some ⟨B2,o2,none⟩) n2 m2)=>(match isG m with
         |true=>wP E A c.argTypes.toList B o n m B2 o2 n2 m2
         |false=>none)
       |_,_=>none)
     |_=>none)
   | .builtin .unsafeString=>(match el.app,c.args.toList with
     | true,[x,y]=>(match ρ x,ρ y with
       |some p,some n=>sxUs E A c.argTypes.toList p n
       |_,_=>none)
     |_,_=>none)
   | .builtin .delete=>(match c.args.toList with
     | [x,y]=>(match ρ x,ρ y with
       |some (.map (some B)),some k=>delS E el A c.argTypes.toList B k
       |_,_=>none)
     |_=>none)
   |_=>none)
 |_=>none
theorem uH{H:El}{z:Op}(h:sxG1 E H A ρ z=some (p,v,A'))(q:PH p):effA E A ρ z=some (v,A'):=by unfold sxG1 at h;split at h;rename_i t a x;split at h;rename_i sz B i j u L f;split at h;obtain⟨l,rfl⟩:=x8 h q;simp only[effA,L,f,l];obtain⟨l,rfl⟩:=wM h q;grind [effA,iN,jK];cases h;rename_i t m k x;split at h;rename_i B C u r g f;obtain⟨l,rfl⟩:=rq h q;simp only[effA,r,g,f,l];cases h;rename_i t m k x;split at h;rename_i B C u r g f;obtain⟨l,rfl⟩:=rq h q;simp only[effA,r,g,f,l];cases h;rename_i c;split at h;rename_i G;split at h;rename_i x y b;split at h;rename_i B o sl J I f D;simp only[effA,G,effB,b,f,D];split at h;grind [fB,C4,pY,tU];rename_i K;simp only[fB,K];cases g:(H.app&&Nat.beq J unk);rw[g]at h;simp at h;rw[g]at h;simp only[f']at g;obtain rfl:=Ho g.2;simp only[C']at h;exact Ha h q;cases h;cases h;grind [effA,effB,m7,wO];grind [effA,effB,Ct];rename_i G;split at h;rename_i x y b;split at h;rename_i B C f D;obtain⟨l,rfl⟩:=Gu h q;grind [effA,effB];cases h;cases h;cases h;cases h
def frzV(E:Env)(A:AH)(B2 n k:Nat):Option (Ll×Value):=
 match A.t.get B2 with
 | some (.cells c2 e2)=>(match E.ti e2,und E e2 with
   | some i2,some d2=>bif (Nat.blt k unk&&(Nat.ble n k&&Nat.beq (c2.take (n*i2.size)).length (n*i2.size)))&&((c2.take (n*i2.size)).all cellv&&(br d2||Nat.beq i2.size 1))then
    some (none,.func (.yield i2.size) ⟨eV (br d2) i2.size n (c2.take (n*i2.size))⟩ ⟨[]⟩)else none
   |_,_=>none)
 | some (.gro els tl e2)=>(match E.ti e2 with
   |some i2=>bif isG k&&Nat.beq i2.size (gsz k)then some (some ((glue els tl).length=n),.func (.yield (gsz k)) ⟨glue els tl⟩ ⟨[]⟩)else none
   |none=>none)
 |_=>none
theorem FB(q:E.Ok)(R:Rel E.P σ A w)(h:frzV E A B2 n k=some (p,v))(g:PH p)(i:T.set FU A.t B2 .dead=some t1):
 ∃σ',Rel E.P σ' ⟨t1,A.next⟩ w/\Ext σ A w σ' ⟨t1,A.next⟩ w/\∀ v',VR σ' (.slice (some ⟨B2,0,none⟩) n k) v'->VR σ' v v':=by
 unfold frzV at h;split at h;rename_i l u j;split at h;rename_i b y f r;cases a:(Nat.blt k unk&&(Nat.ble n k&&Nat.beq (l.take (n*b.size)).length (n*b.size)))&&((l.take (n*b.size)).all cellv&&(br y||Nat.beq b.size 1))with
 |false=>rw[a]at h;simp at h
 |true=>rw[a]at h;simp only[C',osI,Hs]at h;obtain⟨rfl,rfl⟩:=h;simp only[f',Iu,HA,Hy,Iv]at a;obtain⟨⟨J,I,b2⟩,C,z⟩:=a;obtain⟨H,G,D⟩:=ia z n _ b2 C;grind [FD]
 cases h;rename_i els tl u j;split at h;rename_i b f;cases a:(isG k&&Nat.beq b.size (gsz k));rw[a]at h;simp at h;rw[a]at h;simp only[C',osI,Hs]at h;obtain⟨rfl,rfl⟩:=h;simp only[f',Hy]at a;have g:(glue els tl).length=n:=g;rw[bW]at g ⊢;exact wX R j a.1 (by simp[Program.cellsOf,q.ti _ _ f,a.2]) g i;cases h;cases h
def xd:Lh->Nat->Option (Nat×Nat×Nat×Nat)
 | [],_=>none
 | v::l,j=>match v with
   | .slice (some ⟨B,0,none⟩) n k=>some (j,B,n,k)
   |_=>xd l (j+1)
theorem sb:∀ {l:Lh}{i j B n k:Nat},xd l i=some (j,B,n,k)->∃ m,j=i+m/\l[m]? =some (.slice (some ⟨B,0,none⟩) n k)
 | [],i,j,B,n,k,h=>by simp[xd]at h
 |v::l,i,j,B,n,k,h=>by unfold xd at h;split at h;simp_all;obtain⟨m,b,a⟩:=sb h;exact⟨m+1,by omega,by simpa using a⟩
def frzT (E:Env)(B:Nat):Nat->AH->(AH->Prop)->Prop
 |0,A,K=>K A
 | m + 1, A,K=>match A.t.get B with
   | some (.gro els tl e)=>(match xd (ap tl) 0 with
     | some r=>(match frzV E A r.2.1 r.2.2.1 r.2.2.2,T.set FU A.t r.2.1 .dead,E.ti e,und E e with
       | some q,some t1,some ie,some d=>bif Nat.beq B r.2.1|| !(((((ap tl).set r.1 q.2).all cellv)&&Nat.beq ((ap tl).set r.1 q.2).length (tl.length*ie.size))&&(br d||Nat.beq ie.size 1))then False else
         (match T.set FU t1 B (.gro els (eV (br d) ie.size tl.length ((ap tl).set r.1 q.2)) e)with
         |some t2=>pc q.1 (frzT E B m ⟨t2,A.next⟩ K)
         |none=>False)
       |_,_,_,_=>False)
     |none=>K A)
   |_=>K A
theorem wT{E:Env}(u:E.Ok){B:Nat}:∀ {m:Nat}{A:AH}{K:AH->Prop},frzT E B m A K->∃ A',K A'/\∀ (σ:Sig) (w:World),Rel E.P σ A w->∃ σ',Rel E.P σ' A' w/\Ext σ A w σ' A' w
 |0,A,K,h=>⟨A,h,fun σ w R=>⟨σ,R,Ext.refl _ _ _⟩⟩
 | m+1,A,K,h=>by
  unfold frzT at h;split at h;rename_i els tl e X;split at h;rename_i r Q;split at h;rename_i q t1 ie d S b z hd;cases f:(Nat.beq B r.2.1|| !(((((ap tl).set r.1 q.2).all cellv)&&Nat.beq ((ap tl).set r.1 q.2).length (tl.length*ie.size))&&(br d||Nat.beq ie.size 1)))with
  |true=>rw[f]at h;exact h.elim
  | false=>
   rw[f]at h;simp only[HJ]at h;simp only[II,Jr,f',Iu,Hy]at f;obtain⟨a,⟨c1,Z⟩,Y⟩:=f;have a:=aZ a;split at h;rename_i t2 y;obtain⟨U,h⟩:=di h;obtain⟨A',V,G⟩:=wT u h;refine⟨A',V,fun σ w R=>?_⟩;obtain⟨l,R1,X1,O⟩:=FB u R (p:=q.1) (v:=q.2) S U b;obtain⟨mm,I,H⟩:=sb (i:=0) (j:=r.1) (B:=r.2.1) (n:=r.2.2.1) (k:=r.2.2.2) Q;obtain⟨M,L,J⟩:=ia Y tl.length _ Z c1;have C:E.P.cellsOf e=ie.size:=by simp[Program.cellsOf,u.ti _ _ z]
   have D:(⟨t1,A.next⟩:AH).t.get B=some (.gro els tl e):=by show t1.get B=_;rw[H6 b,Hm a];exact X
   obtain⟨R2,X2⟩:=te R1 D (p:=r.1) (by rw[I,IW];exact H) O M (by rw[C];exact L) J y;obtain⟨g,R3,X3⟩:=G l w R2;exact⟨g,R3,X1.trans (X2.trans X3)⟩;exact h.elim
  exact h.elim;grind [Ext.refl];grind [Ext.refl]
def AC(tab:Tab)(inl:Inl)(E:Env)(A:AH)(g:FuncId)(args:Lh)(K:KV):Prop:=
 match E.fn g with
 | some fn=>(match pf tab g with
   |some x=>(match x args A with|some r=>pc r.1 (K r.2.1 r.2.2)|none=>Stop (g,args))
   |none=>inl fn args A K)
 | none=>(match E.ext g with
   |some x=>(match x args A with|some r=>K r.1 r.2|none=>Stop (g,args))
   |none=>Stop (g,args))
def uK(tab:Tab)(inl:Inl)(E:Env)(A:AH)(ρ:Operand->Lj)(op:Op)(K:KV):Prop:=
 match effA E A ρ op with
 |some r=>K r.1 r.2
 | none=>(match i4 E ρ op with
   |some r=>AC tab inl E A r.1 r.2 K
   |none=>Stop (op,A))
def appT (E : Env)(A:AH)(ts:List TypeId)(b:Value)(s:ByteArray):Option (Ll×Value×AH):=
 match ts with
 | [t, tx] => (match und E t,und E tx with
   | some (.slice e),some .string=>(match E.ti e with
     | some ie=>(match ie.zero with
       | some z=>bif Nat.beq ie.size 1&&Nat.beq z.cells.toList.length 1 then
        (match b with
        | .slice none sl sk=>bif Nat.beq sl 0&&Nat.beq sk 0 then
         (match cL A (.cells (s.data.toList.map λb=>.int .u8 b.toNat) e)with
         |some A'=>some (some (s.size<=70368744177664/\s.size*ie.bytes<=140737488355328),.slice (some ⟨A.next,0,none⟩) s.size unk,A')
         |none=>none)else none
        | .slice (some ⟨B,o,none⟩) sl sk=>bif Nat.beq sk unk then
         (match A.t.get B with
         | some (.cells c eb)=>bif Nat.beq eb e then
           (match T.set FU A.t B .dead with
           | some t'=>(match T.set FU t' A.next (.cells (c.take (sl*ie.size)++s.data.toList.map λb=>.int .u8 b.toNat) e)with
             |some t''=>some (some (sl+s.size<=70368744177664/\(sl+s.size)*ie.bytes<=140737488355328/\sl*ie.size<=c.length),.slice (some ⟨A.next,0,none⟩) (sl+s.size) unk,⟨t'',A.next+1⟩)
             |none=>none)
           |none=>none)else none
         |_=>none)else none
        |_=>none)else none
       |none=>none)
     |none=>none)
   |_,_=>none)
 |_=>none
theorem G0{b:Value}(h:appT E A ts b s=some (p,v,A')):
    (Nat.beq s.size 0=true->fB E A ts b (.string s)=some (b,A))/\(Nat.beq s.size 0=false->PH p->fB E A ts b (.string s)=some (v,A')):=by
  unfold appT at h;split at h;rename_i t tx;split at h;rename_i e y u;split at h;rename_i ie f;split at h;rename_i z r;cases C:Nat.beq ie.size 1&&Nat.beq z.cells.toList.length 1;rw[C]at h;cases h;rw[C]at h;simp only[C']at h;simp only[f']at C;obtain⟨i,R⟩:=C;have q:Nat.beq z.cells.toList.length ie.size=true:=by rw[Hy]at i R ⊢;omega
  have l:Nat.blt 0 ie.size=true:=by simp_all
  have j:cI .string=true:=rfl;split at h;rename_i sl D;cases a:Nat.beq sl 0&&Nat.beq D 0;rw[a]at h;cases h;rw[a]at h;simp only[C']at h;split at h;rename_i A1 U;cases h;refine⟨λg=>?_,λg I=>?_⟩;simp only[fB,eM,y,u,f,r,srcA,i,q,l,j,a,g,IH,C'];obtain⟨L,K⟩:s.size<=70368744177664/\s.size*ie.bytes<=140737488355328:=I;have O:Nat.ble s.size 70368744177664=true:=by rw[HA];exact L
  have M:Nat.ble (s.size*ie.bytes) 140737488355328=true:=by rw[HA];exact K
  simp only[fB,eM,y,u,f,r,srcA,i,q,l,j,a,g,O,M,U,IH,C',HJ];cases h;rename_i B o sl D;cases a:Nat.beq D unk;rw[a]at h;cases h;rw[a]at h;obtain rfl:=Ho a;simp only[C']at h;have Q:isG unk=false:=by decide
  split at h;rename_i c X S;cases J:Nat.beq X e;rw[J]at h;cases h;rw[J]at h;simp only[C']at h;split at h;rename_i t1 H;split at h;rename_i t2 G;cases h;have e3:Nat.ble unk unk=true:=by decide
  have Z:Nat.blt unk unk=false:=by decide
  refine⟨λg=>?_,λg I=>?_⟩;simp only[fB,Q,eM,y,u,f,r,srcA,i,q,l,j,g,e3,IH,Bool.true_or,C'];obtain⟨L,K,V⟩:sl+s.size<=70368744177664/\(sl+s.size)*ie.bytes<=140737488355328/\sl*ie.size<=c.length:=I;have O:Nat.ble (sl+s.size) 70368744177664=true:=by rw[HA];exact L
  have M:Nat.ble ((sl+s.size)*ie.bytes) 140737488355328=true:=by rw[HA];exact K
  have Y:Nat.ble (sl*ie.size) c.length=true:=by rw[HA];exact V
  simp only[fB,Q,eM,y,u,f,r,srcA,i,q,l,j,g,O,M,Z,Y,a,S,J,H,G,IH,C',HJ];cases h;cases h;cases h;cases h;cases h;cases h;cases h;cases h
def sxT (E:Env)(el:El)(A:AH)(ρ:Operand->Lj)(op:Op):Option (ByteArray×Value×(Ll×Value×AH)):=
 match op with
 | .call c=>(match c.callee with
   | .builtin .append=>(match el.app,c.args.toList with
     | true,[x,y]=>(match ρ x,ρ y with
       |some b,some (.string s)=>(match appT E A c.argTypes.toList b s with|some r=>some (s,b,r)|none=>none)
       |_,_=>none)
     |_,_=>none)
   |_=>none)
 |_=>none
theorem sxT_ok{i:El}{a:Op}{b:Value}{r:Ll×Value×AH}(h:sxT E i A ρ a=some (s,b,r)):
 (Nat.beq s.size 0=true->effA E A ρ a=some (b,A))/\(Nat.beq s.size 0=false->PH r.1->effA E A ρ a=some (r.2.1,r.2.2)):=by unfold sxT at h;split at h;rename_i c;split at h;rename_i C;split at h;rename_i x y g f;split at h;rename_i D j u q;split at h;rename_i l z;simp only[osI,Hs]at h;obtain⟨rfl,rfl,rfl⟩:=h;grind [G0,effA,effB];cases h;cases h;cases h;cases h;cases h
def sxEff(tab:Tab)(inl:Inl)(E:Env)(el:El)(A:AH)(ρ:Operand->Lj)(op:Op)(K:KV):Prop:=
 match sxT E el A ρ op with
 |some r=>Sp (Nat.beq r.1.size 0) (K r.2.1 A) (pc r.2.2.1 (K r.2.2.2.1 r.2.2.2.2))
 | none=>(match sxG1 E el A ρ op with
   |some r=>pc r.1 (K r.2.1 r.2.2)
   |none=>uK tab inl E A ρ op K)
def sxMk (E:Env)(el:El)(A:AH)(ρ:Operand->Lj)(op:Op):Option (Ll×Value×AH):=
 match op with
 | .makeSlice t l c=>(match und E t with
   | some (.slice e)=>(match el.gm e with
     | true=>(match ρ l,ρ c,E.ti e with
       | some (.int _ l),some (.int _ c),some ie=>(match ie.zero with
         | some z=>bif z.cells.toList.all scal&&(Nat.beq z.cells.toList.length ie.size&&Nat.blt 0 ie.size)then
          (match T.set FU A.t A.next (.gro (List.replicate l.toNat z) [] e)with
          |some t=>some (some (0<=l/\l<=c/\c<=281474976710656/\ie.bytes*c.toNat<=281474976710656),.slice (some ⟨A.next,0,none⟩) l.toNat (unk+3+ie.size),⟨t,A.next+1⟩)
          |none=>none)else none
         |none=>none)
       |_,_,_=>none)
     |false=>none)
   |_=>none)
 |_=>none
theorem eQ(z:Value):∀ n:Nat,ap (List.replicate n z)=rep z.cells.toList n
 |0=>rfl
 |n+1=>by rw[Jg,aU,eQ z n];rfl
theorem Cy(Z:E.Ok){el:El}(R:Rel E.P σ A w){o:Oper}{a:Act}(I:OpR σ ρ a.eval)(h:sxMk E el A ρ o.op=some (p,v,A'))(hp:PH p):Does E σ A w o a v A':=by
 unfold sxMk at h;split at h;rename_i t l c M;split at h;rename_i e hu;split at h;split at h;rename_i k1 g k2 b ie hl hc r;split at h;rename_i z hz;cases j:(z.cells.toList.all scal&&(Nat.beq z.cells.toList.length ie.size&&Nat.blt 0 ie.size));rw[j]at h;simp at h;rw[j]at h;simp only[C']at h;split at h;rename_i t2 ht;cases h;obtain⟨q1,q2,q3,Y⟩:0<=g/\g<=b/\b<=281474976710656/\ie.bytes*b.toNat<=281474976710656:=hp;simp only[f']at j;have e4:Nat.ble (ie.bytes*b.toNat) 281474976710656=true:=by rw[HA];exact Y
 have D:bT E ρ o.op=some (.cells (rep z.cells.toList b.toNat) e,λid=>.slice (some ⟨id,0,none⟩) g.toNat b.toNat):=by rw[M];simp only[bT,hu,hl,hc,r,hz,j.1,j.2.1,j.2.2,q1,q2,q3,e4,IZ,IH,C']
 obtain⟨a2,G,h1,h2,h3,h4⟩:=nu Z I D;have C:σ A.next=none:=R.fresh _ (Hw _)
 have q:=ch (x:=(w.heap.size,0,b.toNat)) C;obtain⟨X,lo,hi,g1,g2,V,g4,g5⟩:=h2 _ q;obtain rfl:=Iw g1;have H:=h3 (upd σ A.next (w.heap.size,0,b.toNat)) A.next w.heap.size b.toNat bG
 have f:=h1 w;have hy:G w.heap.size=.slice (some ⟨w.heap.size,0,none⟩) g.toNat b.toNat:=by
  have O:b.toNat<unk:=by unfold unk;omega
  clear f h1 h3 g1 g2 V g4 g5 h2 D Y e4;generalize g.toNat=ln at H ⊢;generalize b.toNat=cn at H O ⊢;generalize G w.heap.size=y at H ⊢;cases H with
  |slice _ _ _ a3 _=>grind [upd,bG]
  |sliceU _ _ _=>omega
  |sliceV _ _ _ _ _=>omega
  |sliceE=>omega
  |gs0 _ _ _ _ hm=>omega
  |gs _ _ _ _ _ _ _ _ _ hm=>omega
 rw[hy]at f;have J:z.cells.toList.length=ie.size:=Ho j.2.1;have U:E.P.cellsOf e=ie.size:=by simp[Program.cellsOf,Z.ti _ _ r]
 have K:∀ x∈List.replicate g.toNat z,x.cells.size=E.P.cellsOf e:=λx hx=>by grind
 have L:=dN z.cells.toList b.toNat;rw[J]at L;have a1:b.toNat*ie.size<=X.size:=by by_cases h0:b.toNat*ie.size=0;omega;obtain⟨u,k1,_⟩:=V (b.toNat*ie.size-1) _ (Hr (by omega));grind
 have a4:g.toNat*ie.size<=b.toNat*ie.size:=H5 _ (by omega);have a0:0<ie.size:=by simpa using j.2.2
 refine aW (Good.value f ?_ (R.alloc (cp:=b.toNat) ht C (I9 _) (Jb _) ⟨X,lo,hi,rfl,g2,λi v Q=>?_,by rw[Hu];exact K,by rw[U];omega,by simp;omega⟩ rfl) (Ext.alloc R ht (Jb _) (ob:=.cells X e (lo,hi)) rfl rfl rfl rfl));exact .gs 0 0 _ _ _ bG (by omega) (by omega) (by omega) (by omega);rw[Hu,eQ]at Q;have a5:i<g.toNat*ie.size:=by grind [Hx,dN]
 have S:(rep z.cells.toList b.toNat)[i]? =some v:=by grind [po]
 exact V i v S;cases h;cases h;cases h;cases h;cases h;cases h
def sxBy(E:Env)(el:El)(A:AH)(ρ:Operand->Lj)(op:Op):Option (Ll×Value×AH):=
 match op with
 | .convert s d x=>(match ρ x with
   |some (.string b)=>none
   | some (.slice (some ⟨B,o,none⟩) n k)=>(match isG k,und E s,und E d,A.t.get B with
     | true,some (.slice e),some .string,some (.gro els tl eb)=>(match und E e,E.ti eb with
       |some (.int .u8),some ie=>bif Nat.beq ie.size 1&&Nat.beq (gsz k) 1 then some (some (IsB (glue els tl) o n),.string (av (u8L (glue els tl) o n)),A)else none
       |_,_=>none)
     |_,_,_,_=>none)
   |_=>none)
 |_=>none
theorem CA(g:E.Ok){el:El}(R:Rel E.P σ A w){o:Oper}{a:Act}(D:OpR σ ρ a.eval)(h:sxBy E el A ρ o.op=some (p,v,A'))(hp:PH p):Does E σ A w o a v A':=by
 unfold sxBy at h;split at h;rename_i s d x u;split at h;rename_i b S;cases h;rename_i B r n k S;split at h;rename_i e els tl eb hg H hd hB;split at h;rename_i ie J I;cases y:Nat.beq ie.size 1&&Nat.beq (gsz k) 1;rw[y]at h;cases h;rw[y]at h;simp only[C',osI,Hs]at h;obtain⟨rfl,rfl,rfl⟩:=h;simp only[f',Hy]at y;obtain⟨i,q1,Z,Y⟩:=wq hp;rw[Y];have K:E.P.cellsOf eb=1:=by simp[Program.cellsOf,g.ti _ _ I,y.1]
 rcases b7 (D x _ S) hg with⟨e0,X,O⟩|⟨b,dd,c,lo,Q,C,O,a0,hc,eo⟩;have L:i=[]:=H0 (by omega);subst L;refine aW (Good.value (v':=.string ByteArray.empty) (w':=w) ?_ ?_ R (Ext.refl _ _ _));unfold execOp;rw[u];have:(convert s d (.slice X 0 0)).run E.P w=.ok (.string ByteArray.empty) w:=by
  cases X with
  |none=>simp[convert,aj g H,aj g hd,aj g J,Conv.bytesToString]
  |some a'=>simp only[convert,HB,aj g H,aj g hd,Hv,aj g J];have:=J4 (P:=E.P) w a' 0 0 [] (by simp[loadCells,loadCellsFrom]);simpa using this
 simp[O,this];have:ByteArray.empty=av []:=by apply IS;rfl
 rw[this];exact .string _;obtain⟨c',l0,h0,g1,g2,V,M,g5,g6⟩:=R.at hB rfl C;rw[K]at M;rw[<-bW]at V M;have l:∀ j z,(i.map λb=>Value.int .u8 (b.toNat:Int))[j]? =some z->w.cell? ((⟨b,dd+r,none⟩:Addr).add j)=some z:=λj z hz=>by
  have hj:j<n:=by grind
  have h1:(glue els tl)[r+j]? =some z:=by grind
  have U:(ap (glue els tl))[(r+j)*1+0]? =z.cells.toList[0]?:=oM M h1 0 (by decide);rw[Nat.mul_one,HN]at U;have G:∃ q:UInt8,z=.int .u8 (q.toNat:Int):=by grind
  obtain⟨q,rfl⟩:=G;obtain⟨z',k1,k2⟩:=V (r+j) _ U;cases k2;rw[aM];simp only[World.cell?,g1,JE,IR,I2];rw[In];exact k1
 have f:=Jq (P:=E.P) w ⟨b,dd+r,none⟩ (i.map λb=>Value.int .u8 (b.toNat:Int)) l;rw[Hp,Z]at f;refine aW (Good.value (v':=.string (av i)) (w':=w) ?_ (.string _) R (Ext.refl _ _ _));unfold execOp;rw[u];have e1:(i.map λb=>Value.int .u8 (b.toNat:Int))=(i.map λb=>(b.toNat:Int)).map (Value.int .u8):=by rw[H4];rfl
 rw [e1]at f;have:(convert s d (.slice (some ⟨b,dd+r,none⟩) n Q)).run E.P w=.ok (.string (av i)) w:=by
  simp only[convert,HB,aj g H,aj g hd,Hv,aj g J];rw[J4 (P:=E.P) w _ n Q _ f,iF,H4];have e2:i.map ((λn:Int=>UInt8.ofNat n.toNat)∘λb:UInt8=>(b.toNat:Int))=i:=by
   conv=>rhs;rw[<-IC i]
   exact HQ λq _=>by simp
  rw[e2];rfl
 simp[O,this];cases h;cases h;cases h;cases h
def pV (E:Env)(A:AH)(ts:List TypeId)(B o n m:Nat):Option (Ll×Value×AH):=
 match ts with
 | t :: _=>(match und E t with
   | some (.slice e)=>(match E.ti e,A.t.get B with
     | some ie,some (.gro els tl eb)=>(match ie.zero with
       | some z=>bif (Nat.beq eb e&&(Nat.beq (gsz m) ie.size&&isG m))&&((z.cells.toList.all cellv&&z.cells.toList.all scal)&&(Nat.beq z.cells.toList.length ie.size&&Nat.blt 0 ie.size))then
        (match T.set FU A.t B (.gro (splc (glue els tl) (gLo ie.size o) (List.replicate n z)) [] eb)with
        |some t'=>some (some (gLo ie.size o+n<=(glue els tl).length),undef,⟨t',A.next⟩)
        |none=>none)else none
       |none=>none)
     |_,_=>none)
   |_=>none)
 |_=>none
theorem lJ(z:Value):∀ n:Nat,ap (List.replicate n z)=rep z.cells.toList n
 |0=>rfl
 |n+1=>by rw[Jg,aU,lJ z n];rfl
theorem nS{z:Lh}(h:z.all cellv=true):∀ n,(rep z n).all cellv=true
 |0=>rfl
 |n+1=>by simp only[rep,List.all_append,h,nS h n];rfl
theorem tT(G:E.Ok)(R:Rel E.P σ A w){ts:Array TypeId}{x':Value}{as:Array Value}(q:as[0]? =some x')(H:VR σ (.slice (some ⟨B,o,none⟩) n m) x')(h:pV E A ts.toList B o n m=some (p,v,A'))(hp:PH p):
 ∃w',(Builtin.clear_ ts ty as).run E.P w=.ok (.tuple #[]) w'/\v=undef/\Rel E.P σ A' w'/\Ext σ A w σ A' w':=by
 unfold pV at h;split at h;rename_i t a1 M;have y:=kl M;split at h;rename_i e hu;split at h;rename_i ie f i Z D X;split at h;rename_i z hz;cases I:(Nat.beq Z e&&(Nat.beq (gsz m) ie.size&&isG m))&&((z.cells.toList.all cellv&&z.cells.toList.all scal)&&(Nat.beq z.cells.toList.length ie.size&&Nat.blt 0 ie.size));rw[I]at h;cases h;rw[I]at h;simp only[C']at h;simp only[f',Hy,Iv]at I;obtain⟨⟨rfl,S,hg⟩,⟨U,O⟩,K,C⟩:=I;split at h;rename_i t' r;cases h;have a:gLo ie.size o+n<=(glue f i).length:=hp;rw[bW]at a r;have V:E.P.cellsOf Z=ie.size:=by simp[Program.cellsOf,G.ti _ _ D]
 by_cases j:n=0;subst j;have e0:splc (f++i) (gLo ie.size o) (List.replicate 0 z)=f++i:=by simp[splc]
 rw[e0]at r;obtain⟨xa,xk,rfl⟩:=ol H;obtain⟨R2,X2⟩:=R.retell X r rfl rfl rfl λb d c Q=>by obtain⟨c',J,hi,g1,g2,g3,Y,g5,g6⟩:=Q;exact⟨c',J,hi,g1,g2,by rw[Hu];exact g3,by rw[Hu];exact Y,g5,by rw[Hu];exact g6⟩
 refine⟨w,?_,rfl,R2,X2⟩;cases xa<;>simp[Builtin.clear_,y,q,aj G hu];rcases b7 H hg with⟨rfl,_⟩|⟨b,d,c,J,kc,u,rfl,hn,hc,rfl⟩;exact absurd rfl j;rw[S]at q a r;rw[lq C]at a r;obtain⟨ca,l0,h0,g1,g2,g3,Y,g5,g6⟩:=R.at X rfl u;have a0:∀ x∈List.replicate n z,x.cells.size=E.P.cellsOf Z:=λx H=>by grind
 have g:=lJ z n;have l:(ap (List.replicate n z)).length=n*ie.size:=by rw[g,dN,K]
 obtain⟨w',r1,r2,r3⟩:=wK R X u (vs:=ap (List.replicate n z)) (vs':=ap (List.replicate n z)) (off:=J*ie.size) (bt (by rw[g];exact jV O n) σ) (by rw[g];exact nS U n) (by
  rw[l,aE Y,V,<-IG];exact H5 _ a) (by
  grind [qq]) (λx H=>by
  grind [splc,H3,IJ,I0]) (pi (by rw[HZ];exact a)) r
 refine⟨w',?_,rfl,r2,r3⟩;rw[g]at r1;have L:(Builtin.zeroCells z.cells n).toList=rep z.cells.toList n:=by have:=gG z.cells n (.inl (by grind));unfold Builtin.zeroCells;rw[this]
 cases n with
 |zero=>exact absurd rfl j
 |succ n=>simp[Builtin.clear_,y,q,aj G hu,fK G D hz,L,r1]
 cases h;cases h;cases h;cases h;cases h
def sxXt (E:Env)(A:AH)(ρ:Operand->Lj)(op:Op):Option (Ll×Value×AH):=
 match op with
 | .call c=>(match c.callee with
   | .builtin .clear=>(match c.args.toList with
     | [x]=>(match ρ x with
       | some (.slice (some ⟨B,o,none⟩) n m)=>(match isG m with
         |true=>pV E A c.argTypes.toList B o n m
         |false=>none)
       |_=>none)
     |_=>none)
   |_=>none)
 | .binOp .eql t x y _=>(match ρ x,ρ y,und E t with
   | some (.slice (some ⟨_,_,none⟩) n m),some (.slice none 0 0),some (.slice _)=>(match isG m with
     |true=>some (some (0<n),.bool false,A)
     |false=>none)
   |_,_,_=>none)
 |_=>none
theorem Cs(u:E.Ok)(R:Rel E.P σ A w){o:Oper}{a:Act}(f:OpR σ ρ a.eval)(h:sxXt E A ρ o.op=some (p,v,A'))(q:PH p):Does E σ A w o a v A':=by
 unfold sxXt at h;split at h;rename_i c g;split at h;rename_i M;split at h;rename_i x i;split at h;rename_i B C n m l;split at h;obtain⟨j,I,rfl,H,G⟩:=tT u R (ty:=o.type) (as:= #[a.eval x]) rfl (f x _ l) h q;refine aW (Good.value (v':=.tuple #[]) (w':=j) ?_ (cv σ) H G);unfold execOp;rw[g];simp only[resolve,M,HB,Ih,Hv,invoke];rw[vB i a.eval];simp[builtin,I];cases h;cases h;cases h;cases h;rename_i t x y S g;split at h;rename_i B C n m V l J K;split at h;rename_i L;cases h;have q:0<n:=q;have O:a.eval y=.slice none 0 0:=by have:=f y _ J;generalize a.eval y=z at this;cases this;rfl
 rcases b7 (f x _ l) L with⟨rfl,_⟩|⟨b,d,c,U,k,_,Q,_,_,_⟩;omega;refine aW (Good.value (v':=.bool false) (w':=w) ?_ (.bool _) R (Ext.refl _ _ _));unfold execOp;rw[g];have D:(do eqGuard .eql t x y (a.eval x) (a.eval y);binOp .eql t (a.eval x) (a.eval y)).run E.P w=.ok (.bool false) w:=by rw[Q,O];exact(fx (P:=E.P) (t:=t) (a:=.slice (some ⟨b,d+C,none⟩) n k) (b:=.slice none 0 0) (x:=x) (y:=y) (r:=false) (w:=w) (by unfold Op.equal Op.maxDepth;rw[show(10000:Nat)=9999+1 from rfl];unfold Op.equalIn;rw[HB,aj u K,Hv];rfl) rfl rfl rfl rfl).1
 simp only[HB]at D ⊢;rw[D];rfl;cases h;cases h;cases h
def sxOp (tab:Tab)(inl:Inl)(E:Env)(el:El)(A:AH)(ρ:Operand->Lj)(ty:TypeId)(op:Op)(K:KV):Prop:=
 match sxQ E el A ρ ty op with
 |some r=>pc r.1 (K r.2 A)
 | none =>(match sxMk E el A ρ op with
   |some r=>pc r.1 (K r.2.1 r.2.2)
   | none =>(match sxBy E el A ρ op with
     |some r=>pc r.1 (K r.2.1 r.2.2)
     | none=>(match sxXt E A ρ op with
       |some r=>pc r.1 (K r.2.1 r.2.2)
       | none=>(match bT E ρ op with
         |some r=>(match cL A r.1 with|some A'=>K (r.2 A.next) A'|none=>False)
         |none=>sxEff tab inl E el A ρ op K))))
def sxOps(tab:Tab)(inl:Inl)(E:Env)(el:El)(ops:List Oper)(n:Nat)(l:List Oper):T Value->AH->KF->Prop:=
 List.rec (motive:=λ_=>T Value->AH->KF->Prop) (λF A K=>K F A)
  (λo _ ih F A K=>sxG ops F o (λF=>sxOp tab inl E el A (ev E F) o.type o.op (λv A'=>foK (el.fo o.dst) v A' (λv2 A2=>putK n F o.dst v2 (λF'=>nilK E (el.hk o.dst) F' A2 (λF2 A3=>ih F2 A3 K))))) (λF=>putK n F o.dst undef (λF'=>ih F' A K))) l
def yk(E:Env)(inl:Inl):Prop:=∀ g fn,E.fn g=some fn->∀ args A K,inl fn args A K->∀ σ w args',Rel E.P σ A w->Glob E σ->VRs σ args args'->
 Calls E.P g ⟨args'⟩ w (λe w'=>∃ v A' v' σ',e=.returned v'/\K v A'/\VR σ' v v'/\Rel E.P σ' A' w'/\Ext σ A w σ' A' w')
def DoesK(E:Env)(σ:Sig)(A:AH)(w:World)(o:Oper)(a:Act)(K:KV):Prop:=
 ∀(K1:Act->World->Prop) (Q:Exit->Act->World->Prop),(∀v A' v' w' σ',K v A'->VR σ' v v'->Rel E.P σ' A' w'->Ext σ A w σ' A' w'->K1 (a.put o.dst v') w')->o.wp E.P a w K1 Q
theorem DoesK.of{o:Oper}{a:Act}{K:KV}(h:Does E σ A w o a v A')(k:K v A'):DoesK E σ A w o a K:=
 λq Q g=>h q Q λv' f b l j i=>g v A' v' f b k l j i
theorem Cx(l:E.Ok)(U:E.sym=true){y:Tab}(G:TabOk E y){inl:Inl}(X:yk E inl){el:El}(R:Rel E.P σ A w)(O:Glob E σ){o:Oper}{a:Act}(i:OpR σ ρ a.eval){K:KV}
 (h:sxOp y inl E el A ρ o.type o.op K):DoesK E σ A w o a K:=by
 unfold sxOp at h;split at h;rename_i r j;obtain⟨q,k⟩:=di h;exact .of (lF l R i (uF U j q)) k;split at h;rename_i r j;obtain⟨q,k⟩:=di h;exact .of (Cy l R i (p:=r.1) (v:=r.2.1) (A':=r.2.2) j q) k;split at h;rename_i r j;obtain⟨q,k⟩:=di h;exact .of (CA l R i (p:=r.1) (v:=r.2.1) (A':=r.2.2) j q) k;split at h;rename_i r j;obtain⟨q,k⟩:=di h;exact .of (Cs l R i (p:=r.1) (v:=r.2.1) (A':=r.2.2) j q) k;split at h;rename_i r j;split at h;rename_i A' V;exact .of (lG l R i (ob:=r.1) (fv:=r.2) j V) h;exact h.elim;suffices key:∀ K,uK y inl E A ρ o.op K->DoesK E σ A w o a K by unfold sxEff at h;split at h;rename_i r j;have G:=sxT_ok (s:=r.1) (b:=r.2.1) (r:=r.2.2) j;rcases Sp.cases h with⟨H,k⟩|⟨H,k⟩;exact .of (aW (oE l R i (G.1 H))) k;obtain⟨q,k⟩:=di k;exact .of (aW (oE l R i (G.2 H q))) k;split at h;rename_i r j;obtain⟨q,k⟩:=di h;exact .of (aW (oE l R i (uH (p:=r.1) (v:=r.2.1) (A':=r.2.2) j q))) k;exact key _ h
 clear h;intro K h;unfold uK at h;split at h;rename_i r j;exact .of (aW (oE l R i j)) h;split at h;rename_i r J;obtain⟨f,L,u⟩:=ss l i (g:=r.1) (args:=r.2) J;unfold AC at h;split at h;rename_i fn C;have M:∀ Q1:Ending->World->Prop,True:=λ_=>trivial;split at h;rename_i x I;split at h;rename_i D z;obtain⟨q,k⟩:=di h;intro K1 Q Z;unfold Oper.wp;rw[u,dH l C];show Calls E.P r.1 ⟨f⟩ w _;refine(G.get I r.2 A D.1 D.2.1 D.2.2 z q σ w f R O L).mono λe S Y=>?_;grind;exact h.elim;intro K1 Q Z;unfold Oper.wp;rw[u,dH l C];show Calls E.P r.1 ⟨f⟩ w _;refine(X r.1 fn C r.2 A K h σ w f R O L).mono λe S Y=>?_;grind;split at h;rename_i x I;split at h;rename_i D z;refine .of (aW ?_) h;rw[u];exact l.ext r.1 x r.2 A D.1 D.2 I z σ w f R L;exact h.elim;exact h.elim;exact h.elim
theorem fg{a:Option Tmp}{k:T Value->Prop}(h:putK n F a v k):∃ b,put n F a v=some b/\k b:=by grind [putK]
theorem lX{E:Env}(z:E.Ok)(M:E.sym=true){b:Tab}(L:TabOk E b){inl:Inl}(C:yk E inl){r:El}{ops:Array Oper}{n:Nat}{Q:Exit->Act->World->Prop}:∀ (l:List Oper) (k:Nat) (F:T Value) (A:AH) (σ:Sig) (a:Act) (w:World) (K:KF),
 sxOps b inl E r ops.toList n l F A K->(∀(i:Nat),i<l.length->ops[k+i]? =l[i]?)->Rel E.P σ A w->Glob E σ->FR σ F n a->
 (∀u A' a' w' σ',K u A'->FR σ' u n a'->Rel E.P σ' A' w'->Ext σ A w σ' A' w'->Q .normal a' w')->wpOps E.P ops Q (List.range' k l.length) a w
 | [],k,F,A,σ,a,w,K,h,_,R,hg,hF,hQ=>hQ F A a w σ h hF R (Ext.refl _ _ _)
 | o::rest,k,F,A,σ,a,w,K,h,hl,R,hg,hF,hQ=>by
  have h0:ops[k]? =some o:=by have:=hl 0 (by simp);simpa using this
  have Z:∀ (i:Nat),i<rest.length->ops[k+1+i]? =rest[i]?:=λi C=>by have:=hl (i+1) (by simp;omega);grind
  rw[HW,JJ,wpOps_cons];unfold wpOp;simp only[h0];have h:sxG ops.toList F o (λF=>sxOp b inl E r A (ev E F) o.type o.op (λv A'=>foK (r.fo o.dst) v A' (λv2 Y=>putK n F o.dst v2 (λu=>nilK E (r.hk o.dst) u Y (λy X=>sxOps b inl E r ops.toList n rest y X K))))) (λF=>putK n F o.dst undef (λu=>sxOps b inl E r ops.toList n rest u A K)):=h;rcases AB h with⟨I,h⟩|⟨I,h⟩;rw[lS (σ:=σ) (F:=F) (λ_ _ _ d _ _ _=>hF.val d) I];rw[Ht rfl];left;refine Cx z M L C R hg (oC hg hF.val) h _ _ λv0 A0 v' w' a0 O V U S=>?_;obtain⟨v,A1,σ',j,h1,h2,D⟩:=foK_ok O V U;have D:=S.trans D;obtain⟨F1,f,j⟩:=fg j;have g:=Ext.sub R D;obtain⟨y,X,j,J⟩:=mv (E:=E) z (A0:=A1) (n:=n) j;obtain⟨G,g1,g2,g3,g4⟩:=J σ' w' _ w' ⟨σ',mc (hF.mono g) h1 f,h2,hg.sub g,Ext.refl _ _ _⟩;exact lX z M L C rest (k+1) y X G _ w' K j Z g2 g3 g1 λy Y a2 w2 H q k1 k2 k3=>hQ y Y a2 w2 H q k1 k2 (D.trans (g4.trans k3));rw[lS (σ:=σ) (F:=F) (λ_ _ _ d _ _ _=>hF.val d) I];rw[Hm (by simp)];obtain⟨F1,f,j⟩:=fg h;exact lX z M L C rest (k+1) F1 A σ _ w K j Z R hg (mc hF (cv σ) f) hQ
theorem W.sxOps(D:E.Ok)(H:E.sym=true){b:Tab}(G:TabOk E b){inl:Inl}(l:yk E inl){M:El}{Q:Post}{id:Nat}{ops:Array Oper}
 (h:AM.sxOps b inl E M ops.toList n ops.toList F A (Q .normal)):W E A0 n (.region id ops false) Q F A:=by intro u U a w g R J;obtain⟨σ,L,r,q,K⟩:=g;refine wp_region ?_;have:=lX D H G l (Q:=R) ops.toList 0 F A σ a w _ h (λi l=>by simp) r q L (λS A' O y f I C z j=>J .normal S A' O y I ⟨f,C,z,q.sub (Ext.sub r j),K.trans j⟩);rw[Jc];simpa using this
def pg (tab:Tab)(E:Env)(A:AH)(ρ:Operand->Lj)(op:Op)(K:KV):Prop:=
 match effA E A ρ op with
 |some r=>K r.1 r.2
 | none =>(match i4 E ρ op with
   | some r=>(match E.fn r.1 with
     | some _=>(match pf tab r.1 with
       |some x=>(match x r.2 A with|some r=>pc r.1 (K r.2.1 r.2.2)|none=>Stop r)
       |none=>Stop r)
     | none=>(match E.ext r.1 with
       |some x=>(match x r.2 A with|some r=>K r.1 r.2|none=>Stop r)
       |none=>Stop r))
   |none=>Stop (op,A))
theorem tc{b:Tab}{j:Op}{K:KV}(h:pg b E A ρ j K):∃ v A',c7 (uj b) E A ρ j=some (v,A')/\K v A':=by unfold pg at h;unfold c7;split at h;grind;rename_i q;rw[q];simp only;split at h;rename_i r i;rw[i];simp only;split at h;rename_i fn a;rw[a];simp only;split at h;rename_i x l;split at h;rename_i g f;obtain⟨u,k⟩:=di h;refine⟨g.2.1,g.2.2,?_,k⟩;obtain⟨p,v,A'⟩:=g;unfold uj;grind;exact h.elim;exact h.elim;rename_i a;rw[a];simp only;split at h;rename_i x l;rw[l];simp only;split at h;rename_i g f;exact⟨_,_,f,h⟩;exact h.elim;exact h.elim;exact h.elim
def uJ(tab:Tab)(E:Env)(el:El)(A:AH)(ρ:Operand->Lj)(op:Op)(K:KV):Prop:=
 match sxG1 E el A ρ op with
 |some r=>pc r.1 (K r.2.1 r.2.2)
 |none=>pg tab E A ρ op K
theorem uI{a:Tab}{f:El}{b:Op}{K:KV}(h:uJ a E f A ρ b K):∃ v A',c7 (uj a) E A ρ b=some (v,A')/\K v A':=by grind [uJ,di,c7,uH,tc]
def qcK(E:Env)(el:El)(als:List Al)(G:AH)(q:Qu)(K:Prop):Prop:=
 match bX q.m als G with
 |some H=>(match sxQ E el H (rho E q.F (bH q.o.op)) q.o.type q.o.op with|some r=>pc r.1 (r.2=q.v/\K)|none=>False)
 |none=>False
theorem AQ(b:E.sym=true){j:El}{a:List Al}{G:AH}{q:Qu}{K:Prop}(h:qcK E j a G q K):QC E a G q/\K:=by unfold qcK at h;split at h;rename_i H i;split at h;rename_i r f;obtain⟨g,e,k⟩:=di h;exact⟨⟨H,i,by rw[<-e];exact uF b f g⟩,k⟩;exact h.elim;exact h.elim
def qsK(E:Env)(el:El)(als:List Al)(G:AH)(m:Nat)(qs:List Qu)(K:Prop):Prop:=
 List.rec (motive:=λ_=>Prop) K (λq _ ih=>bif m.testBit q.i then ih else qcK E el als G q ih) qs
theorem vn{E:Env}(f:E.sym=true){b:El}{a:List Al}{G:AH}{m:Nat}{K:Prop}:∀ {qs:List Qu},qsK E b a G m qs K->QOk E a G m qs/\K
 | [],h=>⟨.nil,h⟩
 | q::qs,h=>by
  have h:(bif m.testBit q.i then qsK E b a G m qs K else qcK E b a G q (qsK E b a G m qs K)):=h;cases g:m.testBit q.i with
  |true=>rw[g]at h;obtain⟨l,j⟩:=vn f (qs:=qs) h;exact⟨.bit g l,j⟩
  |false=>rw[g]at h;obtain⟨r,h⟩:=AQ f h;obtain⟨l,j⟩:=vn f (qs:=qs) h;exact⟨.chk r l,j⟩
def Dm(E:Env)(el:El)(als:List Al)(q:Qu)(past:List (Nat×AH))(K:Prop):Prop:=
 List.rec (motive:=λ_=>Prop) K (λx _ ih=>bif q.m.testBit x.1 then K else qcK E el als x.2 q ih) past
theorem q8{E:Env}(g:E.sym=true){f:El}{a:List Al}{q:Qu}{K:Prop}:∀ {past:List (Nat×AH)},Dm E f a q past K->POk E a q past/\K
 | [],h=>⟨.nil,h⟩
 | x::past,h=>by
  have h:(bif q.m.testBit x.1 then K else qcK E f a x.2 q (Dm E f a q past K)):=h;cases b:q.m.testBit x.1 with
  |true=>rw[b]at h;exact⟨.bit b,h⟩
  |false=>rw[b]at h;obtain⟨l,h⟩:=AQ g h;obtain⟨j,i⟩:=q8 g (past:=past) h;exact⟨.chk l j,i⟩
def mk(a:Lg)(i:Nat):Nat:=(nth a i).getD 0
def sxAl (E:Env)(el:El)(ρ:Operand->Lj)(op:Op):Option (Ll×AObj×(Nat->Value)):=
 match op with
 | .makeSlice t l c=>(match und E t with
   | some (.slice e)=>(match el.gm e with
     | true=>(match ρ l,ρ c,E.ti e with
       | some (.int _ l),some (.int _ c),some ie=>(match ie.zero with
         | some z=>bif z.cells.toList.all scal&&(Nat.beq z.cells.toList.length ie.size&&Nat.blt 0 ie.size)then
          some (some (0<=l/\l<=c/\c<=281474976710656/\ie.bytes*c.toNat<=281474976710656),.cells (rep z.cells.toList c.toNat) e,λid=>.slice (some ⟨id,0,none⟩) l.toNat c.toNat)else none
         |none=>none)
       |_,_,_=>none)
     |false=>none)
   |_=>none)
 |_=>none
theorem CC{J:El}{g:Op}{r:AObj×(Nat->Value)}(h:sxAl E J ρ g=some (p,r))(G:PH p):bT E ρ g=some r:=by
 unfold sxAl at h;split at h;rename_i t l c;split at h;rename_i e D;split at h;split at h;rename_i M i L b ie H I f;split at h;rename_i z C;cases a:(z.cells.toList.all scal&&(Nat.beq z.cells.toList.length ie.size&&Nat.blt 0 ie.size));rw[a]at h;cases h;rw[a]at h;simp only[C',osI,Hs]at h;obtain⟨rfl,rfl⟩:=h;obtain⟨y,u,q,j⟩:0<=i/\i<=b/\b<=281474976710656/\ie.bytes*b.toNat<=281474976710656:=G;simp only[f']at a;have K:Nat.ble (ie.bytes*b.toNat) 281474976710656=true:=by rw[HA];exact j
 simp only[bT,D,H,I,f,C,a.1,a.2.1,a.2.2,y,u,q,K,IZ,IH,C'];cases h;cases h;cases h;cases h;cases h
def u5 (tab:Tab)(E:Env)(el:El)(ms:Lg)(n n0 sz:Nat)(o:Oper)(ih:Nat->RS->(RS->Prop)->Prop)(i:Nat)(F:T Value)(G:AH)(past:List (Nat×AH))(als:List Al)(qs:List Qu)(K:RS->Prop):Prop:=
 match gO E o.op with
 | true=>(match bX (mk ms i) als G with
   | some H=>uJ tab E el H (rho E F (bH o.op)) o.op (λv G'=>bif als.all (tQ H G')&&Nat.ble (n0+sz) G'.next then
    qsK E el als G' (mk ms i) qs (putK n F o.dst v (λF'=>ih (i+1) ⟨F',G',(i,G)::past,als,qs⟩ K))else False)
   |none=>False)
 | false =>(match sxAl E el (rho E F (bH o.op)) o.op with
  |some r0=>pc r0.1 (bif (vis G (n0+i)).isNone&&past.all (λp=>(vis p.2 (n0+i)).isNone)then putK n F o.dst (r0.2.2 (n0+i)) (λF'=>ih (i+1) ⟨F',G,past,(i,n0+i,r0.2.1)::als,qs⟩ K)else False)
  | none =>(match bT E (rho E F (bH o.op)) o.op with
   |some r=>bif (vis G (n0+i)).isNone&&past.all (λp=>(vis p.2 (n0+i)).isNone)then putK n F o.dst (r.2 (n0+i)) (λF'=>ih (i+1) ⟨F',G,past,(i,n0+i,r.1)::als,qs⟩ K)else False
   | none =>(match bX (mk ms i) als G with
     | some H=>(match sxQ E el H (rho E F (bH o.op)) o.type o.op with
       | some r=>pc r.1 (match hdep o.op with
         |true=>Dm E el als ⟨i,mk ms i,o,F,r.2⟩ past (putK n F o.dst r.2 (λF'=>ih (i+1) ⟨F',G,past,als,⟨i,mk ms i,o,F,r.2⟩::qs⟩ K))
         |false=>putK n F o.dst r.2 (λF'=>ih (i+1) ⟨F',G,past,als,qs⟩ K))
       |none=>Stop (o.op,H))
     |none=>False)))
def sxRL(tab:Tab)(E:Env)(el:El)(ops:List Oper)(ms:Lg)(n n0 sz:Nat)(l:List Oper):Nat->RS->(RS->Prop)->Prop:=
 List.rec (motive:=λ_=>Nat->RS->(RS->Prop)->Prop) (λ_ S K=>K S)
  (λo _ ih i S K=>sxG ops S.F o (λF=>u5 tab E el ms n n0 sz o ih i F S.G S.past S.als S.qs K) (λF=>putK n F o.dst undef (λF'=>ih (i+1) ⟨F',S.G,S.past,S.als,S.qs⟩ K))) l
theorem ga{f:Tab}{E:Env}(g:E.sym=true){O:El}{ops:List Oper}{I:Lg}{n j sz:Nat}:∀ (l:List Oper) (i:Nat) (S:RS) (K:RS->Prop),sxRL f E O ops I n j sz l i S K->RL (uj f) E ops I n j sz l i S K
 | [],i,S,K,h=>.nil h
 |o::l,i,⟨F,G,past,als,qs⟩,K,h=>by have h:sxG ops F o (λF=>u5 f E O I n j sz o (sxRL f E O ops I n j sz l) i F G past als qs K) (λF=>putK n F o.dst undef (λz=>sxRL f E O ops I n j sz l (i+1) ⟨z,G,past,als,qs⟩ K)):=h;rcases AB h with⟨q,h⟩|⟨q,h⟩;unfold u5 at h;split at h;rename_i C;split at h;rename_i H M;obtain⟨v,U,V,h⟩:=uI h;cases b:(als.all (tQ H U)&&Nat.ble (j+sz) U.next);rw[b]at h;exact h.elim;rw[b]at h;simp only[f']at b;obtain⟨L,h⟩:=vn g h;obtain⟨z,y,h⟩:=fg h;exact RL.eff g q C M V b.1 L b.2 y (ga g l (i+1) _ K h);exact h.elim;rename_i C;split at h;rename_i J Q;obtain⟨R,h⟩:=di h;have D:=CC (p:=J.1) (r:=J.2) Q R;cases b:((vis G (j+i)).isNone&&past.all (λp=>(vis p.2 (j+i)).isNone));rw[b]at h;exact h.elim;rw[b]at h;obtain⟨z,y,h⟩:=fg h;exact RL.alloc q C (ob:=J.2.1) (fv:=J.2.2) D b y (ga g l (i+1) _ K h);split at h;rename_i r D;cases b:((vis G (j+i)).isNone&&past.all (λp=>(vis p.2 (j+i)).isNone));rw[b]at h;exact h.elim;rw[b]at h;obtain⟨z,y,h⟩:=fg h;exact RL.alloc q C (ob:=r.1) (fv:=r.2) D b y (ga g l (i+1) _ K h);rename_i D;split at h;rename_i H M;split at h;rename_i r X;obtain⟨y,h⟩:=di h;have L:=uF g X y;split at h;rename_i hd;obtain⟨u,h⟩:=q8 g h;obtain⟨z,a,h⟩:=fg h;exact RL.read g q C D M L hd u a (ga g l (i+1) _ K h);rename_i hd;obtain⟨z,a,h⟩:=fg h;exact RL.quiet q C D M L hd a (ga g l (i+1) _ K h);exact h.elim;exact h.elim;obtain⟨z,a,h⟩:=fg h;exact RL.skip q a (ga g l (i+1) _ K h)
def sxReg(tab:Tab)(E:Env)(el:El)(ops:Array Oper)(l:List Oper)(sz:Nat)(n:Nat)(F:T Value)(A:AH)(K:KF):Prop:=
 bif nU E ops&&Nat.blt (A.next+sz+1) 1099511627776 then
  sxRL tab E el l (fj l []) n A.next sz l 0 ⟨F,⟨A.t,A.next+sz⟩,[],[],[]⟩ (λS=>match bX (2 ^ sz-1) S.als S.G with|some A'=>K S.F A'|none=>False)
 else False
theorem W.sxReg(f:E.Ok)(i:E.sym=true){a:Tab}(g:TabOk E a){l:El}{Q:Post}{id:Nat}{ops:Array Oper}
 (h:AM.sxReg a E l ops ops.toList ops.toList.length n F A (Q .normal)):W E A0 n (.region id ops true) Q F A:=by unfold AM.sxReg at h;cases b:(nU E ops&&Nat.blt (A.next+ops.toList.length+1) 1099511627776);rw[b]at h;exact h.elim;rw[b]at h;simp only[f']at b;refine W.drawn f (Ai g) b.1 rfl rfl rfl b.2 ?_;obtain⟨q,j,r⟩:=ga i _ _ _ _ h;refine⟨q,j,?_⟩;grind
def fwd:Ld->Nat->Lk
 | [],_=>none
 |x::m,B=>bif Nat.beq B x.2 then some x.1 else fwd m B
def bak(m:Ld)(B a:Nat):Bool:=match back m a with|some C=>Nat.beq C B|none=>false
def renB(m:Ld)(B:Nat):Lk:=match fwd m B with|some B'=>bif bak m B B' then some B' else none|none=>none
theorem pq{m:Ld}{B':Nat}(h:renB m B=some B'):back m B'=some B:=by unfold renB at h;split at h;rename_i C b;cases a:bak m B C;rw[a]at h;cases h;rw[a]at h;simp only[C',osI]at h;grind [bak,Ho];cases h
abbrev RL2:=Option (Lh×Value)
def renL(f:Value->RL2)(l:Lh):Option (Lh×Lh):=
 List.rec (motive:=λ_=>Option (Lh×Lh)) (some ([],[])) (λv _ ih=>match f v with
  |some r=>(match ih with|some s=>some (r.1++s.1,r.2::s.2)|none=>none)
  |none=>none) l
def renV(m:Ld):Nat->Value->RL2
 |0,_=>none
 | k+1,v=>match v with
   | .pointer (some ⟨B,i,none⟩)=>(match renB m B with|some B'=>some ([],.pointer (some ⟨B',i,none⟩))|none=>none)
   | .slice (some ⟨B,i,none⟩) n c=>(match renB m B with|some B'=>some ([],.slice (some ⟨B',i,none⟩) n c)|none=>none)
   | .map (some B)=>(match renB m B with|some B'=>some ([],.map (some B'))|none=>none)
   | .agg ⟨xs⟩=>(match renL (renV m k) xs with|some r=>some (r.1,.agg ⟨r.2⟩)|none=>none)
   | .tuple ⟨xs⟩=>(match renL (renV m k) xs with|some r=>some (r.1,.tuple ⟨r.2⟩)|none=>none)
   | .iface t x=>(match renV m k x with|some r=>some (r.1,.iface t r.2)|none=>none)
   | .func (.yield sz) xs ys=>some ([.func (.yield sz) xs ys],.func (.yield sz) xs ys)
   | .func (.func g) ⟨xs⟩ ⟨ys⟩=>(match renL (renV m k) xs,renL (renV m k) ys with|some r,some s=>some (r.1++s.1,.func (.func g) ⟨r.2⟩ ⟨s.2⟩)|_,_=>none)
   |v=>bif scal v then some ([],v)else none
def HFs(l:Lh)(p:Prop):Prop:=List.rec (motive:=λ_=>Prop) p (λv _ ih=>HF v/\ih) l
theorem gB{p:Prop}:∀ {l:Lh},HFs l p->(∀x∈l,HF x)/\p
 | [],h=>⟨λx a=>by simp at a,h⟩
 |v::l,h=>by obtain⟨f,b⟩:=gB (l:=l) h.2;exact⟨HF.cons h.1 f,b⟩
theorem cS{ρ:Nat->Lk}{f:Value->RL2}(b:∀ v r,f v=some r->(∀x∈r.1,HF x)->RV ρ v r.2):∀ {l:Lh}{r:Lh×Lh},renL f l=some r->(∀x∈r.1,HF x)->RVs ρ l r.2
 | [],r,h,_=>by have h:some ([],[])=some r:=h;cases h;exact .nil
 |v::l,r,h,hh=>by have h:(match f v with|some r=>(match renL f l with|some s=>some (r.1++s.1,r.2::s.2)|none=>none)|none=>none)=some r:=h;split at h;rename_i g j;split at h;rename_i s i;cases h;exact .cons (b v g j λx a=>hh x (by simp[a])) (cS b i λx a=>hh x (by simp[a]));cases h;cases h
theorem cm{m:Ld}:∀ (k:Nat) (v:Value) (r:Lh×Value),renV m k v=some r->(∀x∈r.1,HF x)->RV (back m) v r.2
 |0,v,r,h,_=>by cases h
 |k+1,v,r,h,hh=>by unfold renV at h;split at h;split at h;rename_i g b;cases h;exact .ptr (pq b);cases h;split at h;rename_i g b;cases h;exact .slice (pq b);cases h;split at h;rename_i g b;cases h;exact .map (pq b);cases h;split at h;rename_i s a;cases h;exact .agg (cS (cm k) a hh);cases h;split at h;rename_i s a;cases h;exact .tuple (cS (cm k) a hh);cases h;split at h;rename_i s a;cases h;exact .iface (cm k _ _ a hh);cases h;cases h;exact .hf (hh _ (by simp));split at h;rename_i s1 q l j;cases h;exact .func rfl (cS (cm k) l λx f=>hh x (by simp[f])) (cS (cm k) j λx f=>hh x (by simp[f]));cases h;rw[Bool.cond_eq_ite]at h;split at h;rename_i i;cases h;exact .hf (.scal i);cases h
def ta(m:Ld)(F:T Value)(l:Lg):Option (Lh×List (Nat×Value)):=
 List.rec (motive:=λ_=>Option (Lh×List (Nat×Value))) (some ([],[])) (λt _ ih=>match F.get t with
  | some v=>(match renV m 8 v with
    |some r=>(match ih with|some s=>some (r.1++s.1,(t,r.2)::s.2)|none=>none)
    |none=>none)
  |none=>none) l
theorem lV{m:Ld}{F:T Value}:∀ {l:Lg}{r},ta m F l=some r->(∀x∈r.1,HF x)->RenF m F r.2
 | [],r,h,_=>by have h:some ([],[])=some r:=h;cases h;exact .nil
 | t ::l,r,h,hh=>by
  have h:(match F.get t with
   | some v=>(match renV m 8 v with
     |some r=>(match ta m F l with|some s=>some (r.1++s.1,(t,r.2)::s.2)|none=>none)
     |none=>none)
   |none=>none)=some r:=h
  split at h;rename_i v f;split at h;rename_i b i;split at h;rename_i s g;cases h;exact .cons f (cm 8 v b i λx a=>hh x (by simp[a])) (lV g λx a=>hh x (by simp[a]));cases h;cases h;cases h
def inL(k:Nat)(l:Lg):Bool:=l.any λx=>Nat.beq x k
def renW(o:AObj):Option (Lh×AObj):=
 match o with
 | .cells c e=>some ([.agg ⟨c⟩],.cells c e)
 | .gro els tl e=>some ([.agg ⟨glue els tl⟩],.gro (glue els tl) [] e)
 | .map es k=>some ([.agg ⟨es.map λx=>x.2.1⟩],.map es k)
 |_=>none
def isWh(a:Lg)(o:AObj):Bool:=match o with| .cells _ e=>inL e a| .gro _ _ _=>true| .map _ _=>true|_=>false
theorem lQ(h:HF (.agg ⟨c⟩)):∀ x∈c,HF x:=by
 cases h with
 |scal h=>simp[scal]at h
 |agg h=>exact h
theorem pp{ρ:Nat->Lk}{o:AObj}{r:Lh×AObj}(h:renW o=some r)(f:∀ x∈r.1,HF x):RO ρ o r.2:=by
 unfold renW at h;split at h;cases h;exact .cells (RVs.hf (lQ (f _ (by simp))));cases h;refine .gro λx b=>?_;rw[<-bW]at b;obtain⟨y,q,b⟩:=List.mem_flatMap.1 b;have g:=lQ (f _ (by simp)) y q;cases y with
 |agg j=>obtain⟨j⟩:=j;exact lQ g x b
 |_=>simp only[Value.cells,Ie]at b;grind
 rename_i i k;cases h;refine .map ?_;have a:=lQ (f (.agg ⟨i.map λx=>x.2.1⟩) (by simp));clear f;induction i with
 |nil=>exact .nil
 |cons y i l=>obtain⟨u,v1,z⟩:=y;exact .cons (.hf (a v1 (by simp))) (l λx b=>a x (by grind))
 cases h
def renO(m:Ld)(o:AObj):Option (Lh×AObj):=
 match o with
 | .cells c e=>(match renL (renV m 8) c with|some r=>some (r.1,.cells r.2 e)|none=>none)
 | .ro c e=>(match renL (renV m 8) c with|some r=>some (r.1,.ro r.2 e)|none=>none)
 | .arr els c n e=>(match renL (renV m 8) c with|some r=>some (.agg ⟨els⟩::r.1,.arr els r.2 n e)|none=>none)
 | .dead=>some ([],.dead)
 |_=>none
theorem ma{m:Ld}{o:AObj}{r:Lh×AObj}(h:renO m o=some r)(a:∀ x∈r.1,HF x):RO (back m) o r.2:=by unfold renO at h;split at h;split at h;rename_i s f;cases h;exact .cells (cS (cm 8) f a);cases h;split at h;rename_i s f;cases h;exact .ro (cS (cm 8) f a);cases h;split at h;rename_i i g;cases h;exact .arr (λx b=>lQ (a _ (by simp)) x b) (cS (cm 8) g λx b=>a x (by simp[b]));cases h;cases h;exact .dead;cases h
def Co(ws:Lg)(m:Ld)(A:AH)(l:Ld):Option (Lh×List (Nat×AObj)):=
 List.rec (motive:=λ_=>Option (Lh×List (Nat×AObj))) (some ([],[])) (λx _ ih=>match A.t.get x.2 with
  | some o=>(match(bif isWh ws o then renW o else renO m o)with
    |some r=>(match ih with|some s=>some (r.1++s.1,(x.1,r.2)::s.2)|none=>none)
    |none=>none)
  |none=>none) l
theorem qC{ws:Lg}{m:Ld}{A:AH}:∀ {l:Ld}{r},Co ws m A l=some r->(∀x∈l,back m x.1=some x.2)->(∀x∈r.1,HF x)->RenH m A r.2
 | [],r,h,_,_=>by have h:some ([],[])=some r:=h;cases h;exact .nil
 | t ::l,r,h,hb,hh=>by
  have h:(match A.t.get t.2 with
   | some o=>(match(bif isWh ws o then renW o else renO m o)with
     |some r=>(match Co ws m A l with|some s=>some (r.1++s.1,(t.1,r.2)::s.2)|none=>none)
     |none=>none)
   |none=>none)=some r:=h
  split at h;rename_i v f;split at h;rename_i b j;split at h;rename_i s g;cases h;have i:RO (back m) v b.2:=by grind [isWh,pp,ma]
  exact .cons (hb t (by simp)) f i (qC g (λx a=>hb x (by simp[a])) λx a=>hh x (by simp[a]));cases h;cases h;cases h
def baks(m:Ld):Bool:=m.all λx=>bak m x.2 x.1
def kL (ws:Lg)(m:Ld)(slots:Lg)(nx:Nat)(F:T Value)(A:AH)(K:KF):Prop:=
 match ta m F slots with
 | some r=>(match Co ws m A m with
   | some s=>(match ofL r.2 .leaf with
     | some F1=>(match ofL s.2 .leaf with
       |some t1=>bif bq nx m&&baks m then HFs (r.1++s.1) (K F1 ⟨t1,nx⟩)else False
       |none=>False)
     |none=>False)
   |none=>False)
 |none=>False
theorem nD(i:GlOk E){m:Ld}(g:∀ B,B<A0.next->back m B=some B)(f:A0.next<=nx){K:KF}(h:kL ws m slots nx F A K):∃ F1 A1,K F1 A1/\Turns E A0 n F A F1 A1:=by unfold kL at h;split at h;rename_i r u;split at h;rename_i s q;split at h;rename_i F1 y;split at h;rename_i t1 l;cases b:(bq nx m&&baks m);rw[b]at h;exact h.elim;rw[b]at h;simp only[f']at b;obtain⟨j,k⟩:=gB h;refine⟨F1,⟨t1,nx⟩,k,Turns.renK i m r.2 s.2 nx g f b.1 y l (lV u λx a=>j x (by simp[a])) (qC q (λx a=>?_) λx a=>j x (by simp[a]))⟩;have:=HV.1 b.2 x a;grind [bak,Ho];exact h.elim;exact h.elim;exact h.elim;exact h.elim
theorem lU(a:GlOk E)(f:A0.next=0){m:Ld}{K:KF}(h:kL ws m slots nx F A K):∃ F1 A1,K F1 A1/\Turns E A0 n F A F1 A1:=
 nD a (λB b=>by omega) (by omega) h
def idK(m:Ld)(k:Nat):Bool:=Nat.rec (motive:=λ_=>Bool) true (λi ih=>(match back m i with|some B=>Nat.beq B i|none=>false)&&ih) k
theorem Bs{m:Ld}:∀ {k:Nat},idK m k=true->∀ B,B<k->back m B=some B
 |0,_,B,hB=>by omega
 | k+1,h,B,hB=>by
  have h:((match back m k with|some B=>Nat.beq B k|none=>false)&&idK m k)=true:=h;rw[f']at h;rcases IP B k with q|q;exact Bs h.2 B q;obtain rfl:B=k:=by omega
  grind [Ho]
def nC(k:Nat)(b:Lg)(m:Ld)(c:Lg)(a:Nat)(F:T Value)(A:AH)(K:KF):Prop:=bif idK m k&&Nat.ble k a then kL b m c a F A K else False
theorem jE(b:GlOk E){m:Ld}{K:KF}(h:nC A0.next ws m slots nx F A K):∃ F1 A1,K F1 A1/\Turns E A0 n F A F1 A1:=by
 unfold nC at h;cases a:idK m A0.next&&Nat.ble A0.next nx
 rw[a]at h;exact h.elim;rw[a]at h;rw[f',HA]at a;exact nD b (Bs a.1) a.2 h
def tellK(m:Ld)(b:Lg)(a:Nat)(F:T Value)(A:AH)(K:KF):Prop:=kL [] m b a F A K
def kI(f:Value->Lg)(l:Lh):Lg:=List.rec (motive:=λ_=>Lg) [] (λv _ ih=>f v++ih) l
def blks:Nat->Value->Lg
 |0,_=>[]
 | k+1,v=>match v with
   | .pointer (some ⟨B,_,_⟩)=>[B]
   | .slice (some ⟨B,_,_⟩) _ _=>[B]
   | .map (some B)=>[B]
   | .agg ⟨xs⟩=>kI (blks k) xs
   | .tuple ⟨xs⟩=>kI (blks k) xs
   | .iface _ x=>blks k x
   | .func (.func _) ⟨xs⟩ ⟨ys⟩=>kI (blks k) xs++kI (blks k) ys
   |_=>[]
def th(ws:Lg)(A:AH)(k:Nat):Lg->Lg->Lg:=
 Nat.rec (motive:=λ_=>Lg->Lg->Lg) (λ_ seen=>seen) (λ_ ih todo seen=>match todo with
  | []=>seen
  | B::r=>bif inL B seen then ih r seen else(match A.t.get B with
    |some (.cells c e)=>bif inL e ws then ih r (seen++[B])else ih (r++kI (blks 8) c) (seen++[B])
    |some (.ro c e)=>bif inL e ws then ih r (seen++[B])else ih (r++kI (blks 8) c) (seen++[B])
    |some (.arr _ c _ e)=>ih (r++kI (blks 8) c) (seen++[B])
    |_=>ih r (seen++[B]))) k
def numb(l:Lg):Nat->Ld:=List.rec (motive:=λ_=>Nat->Ld) (λ_=>[]) (λB _ ih k=>(k,B)::ih (k+1)) l
def slotB(F:T Value)(l:Lg):Lg:=List.rec (motive:=λ_=>Lg) [] (λt _ ih=>(match F.get t with|some v=>blks 8 v|none=>[])++ih) l
def autoM(a b:Lg)(F:T Value)(A:AH):Ld:=numb (th a A 64 (slotB F b) []) 0
def lenM(m:Ld):Nat:=List.rec (motive:=λ_=>Nat) 0 (λ_ _ ih=>ih+1) m
def yu(a b:Lg)(F:T Value)(A:AH)(K:KF):Prop:=kL a (autoM a b F A) b (lenM (autoM a b F A)) F A K
def idsL(k:Nat):Lg:=Nat.rec (motive:=λ_=>Lg) [] (λi ih=>ih++[i]) k
def BM(k:Nat)(a b:Lg)(F:T Value)(A:AH):Ld:=numb (th a A 64 (idsL k++slotB F b) []) 0
def uD(k:Nat)(a b:Lg)(F:T Value)(A:AH)(K:KF):Prop:=nC k a (BM k a b F A) b (lenM (BM k a b F A)) F A K
def blkAt(p:NPos)(F:T Value)(A:AH):Lk:=
 match p with
 | .made _=>none
 | .cutS _=>none
 | .cutC _ _ _=>none
 | .nilC _ _ _=>none
 | .emp _=>none
 | .groC _ _ _=>none
 | .slot t=>(match F.get t with
   |some (.slice (some ⟨B,_,none⟩) _ _)=>some B
   |_=>none)
 | .cell t j=>(match F.get t with
   | some (.pointer (some ⟨B,0,none⟩))=>(match A.t.get B with
     | some (.cells c _)=>(match nth c j with
       |some (.slice (some ⟨B2,_,none⟩) _ _)=>some B2
       |_=>none)
     | some (.arr _ rest nn _)=>(match nth rest (j-nn)with
       |some (.slice (some ⟨B2,_,none⟩) _ _)=>some B2
       |_=>none)
     |_=>none)
   |_=>none)
def frzK(E:Env)(l:List NPos)(F:T Value):AH->(AH->Prop)->Prop:=
 List.rec (motive:=λ_=>AH->(AH->Prop)->Prop) (λA K=>K A) (λp _ ih A K=>match blkAt p F A with
  |some B=>frzT E B 16 A (λA1=>ih A1 K)
  |none=>ih A K) l
theorem pZ{E:Env}(f:E.Ok){F:T Value}:∀ {l:List NPos}{A:AH}{K:AH->Prop},frzK E l F A K->∃ A',K A'/\∀ (σ:Sig) (w:World),Rel E.P σ A w->∃ σ',Rel E.P σ' A' w/\Ext σ A w σ' A' w
 | [],A,K,h=>⟨A,h,fun σ w R=>⟨σ,R,Ext.refl _ _ _⟩⟩
 | p::l,A,K,h=>by
  have h:(match blkAt p F A with
   |some B=>frzT E B 16 A (λg=>frzK E l F g K)
   |none=>frzK E l F A K):=h
  split at h;obtain⟨g,h,j⟩:=wT f h;obtain⟨z,h,i⟩:=pZ f h;refine⟨z,h,fun σ w R=>?_⟩;obtain⟨b,y,r⟩:=j σ w R;obtain⟨a,u,q⟩:=i b w y;exact⟨a,u,r.trans q⟩;exact pZ f h
theorem lA(j:E.Ok){l:List NPos}{K:AH->Prop}(h:frzK E l F A K):∃ A',K A'/\Turns E A0 n F A F A':=by obtain⟨A',h,u⟩:=pZ j h;refine⟨A',h,fun i z a w ⟨σ,r,R,q,X⟩=>?_⟩;obtain⟨f,y,g⟩:=u σ w R;have b:=Ext.sub R g;exact⟨f,r.mono b,y,q.sub b,X.trans g⟩
def uC(E:Env)(a:List (NPos×TypeId×Nat))(c:List NPos)(b d:Lg)(F:T Value)(A:AH)(K:KF):Prop:=nilK E a F A (λF1 A1=>frzK E c F1 A1 (λA2=>yu b d F1 A2 K))
def eX(k:Nat)(E:Env)(a:List (NPos×TypeId×Nat))(c:List NPos)(b d:Lg)(F:T Value)(A:AH)(K:KF):Prop:=nilK E a F A (λF1 A1=>frzK E c F1 A1 (λA2=>uD k b d F1 A2 K))
theorem cQ(b:E.Ok)(a:GlOk E){ns:List (NPos×TypeId×Nat)}{zs:List NPos}{K:KF}(h:eX A0.next E ns zs ws slots F A K):∃ F1 A1,K F1 A1/\Turns E A0 n F A F1 A1:=by obtain⟨F1,A1,h,t1⟩:=mv (E:=E) b (A0:=A0) (n:=n) h;obtain⟨j,h,t2⟩:=lA b (A0:=A0) (n:=n) h;obtain⟨g,i,h,f⟩:=jE a (A0:=A0) (n:=n) h;exact⟨g,i,h,t1.trans (t2.trans f)⟩
theorem qD(a:GlOk E)(b:A0.next=0){K:KF}(h:yu ws slots F A K):∃ F1 A1,K F1 A1/\Turns E A0 n F A F1 A1:=lU a b h
theorem qB(b:E.Ok)(a:GlOk E)(g:A0.next=0){ns:List (NPos×TypeId×Nat)}{zs:List NPos}{K:KF}(h:uC E ns zs ws slots F A K):∃ F1 A1,K F1 A1/\Turns E A0 n F A F1 A1:=by obtain⟨F1,A1,h,t1⟩:=mv (E:=E) b (A0:=A0) (n:=n) h;obtain⟨l,h,t2⟩:=lA b (A0:=A0) (n:=n) h;obtain⟨i,j,h,f⟩:=qD a g (n:=n) h;exact⟨i,j,h,t1.trans (t2.trans f)⟩
inductive LM where
 |unroll (m:Nat)
 |cutW (ws:Lg) (m:Ld) (slots:Lg) (nx:Nat)
 |auto (ws slots:Lg)
 |autoN (ns:List (NPos×TypeId×Nat)) (zs:List NPos) (ws slots:Lg)
 |raw
def LM.cut(m:Ld)(b:Lg)(a:Nat):LM:=.cutW [] m b a
structure SX where
 E:Env
 tab:Tab
 el:El
 lm:Nat->LM
structure SX.Ok (X:SX):Prop where
 ok:X.E.Ok
 sym:X.E.sym=true
 gl:GlOk X.E
 tab:TabOk X.E X.tab
def keyOf(c:Code):Nat:=
 Code.rec (motive:=λ_=>Nat) 0 (λid _ _=>id) (λ_ _ x y=>bif Nat.beq x 0 then y else x) (λ_ _ _ x y=>bif Nat.beq x 0 then y else x) (λ_ _ x=>x) (λ_ x=>x) (λ_ _ _ _ x y=>bif Nat.beq x 0 then y else x) (λ_=>0) (λ_ x=>x) (λ_=>0) (λ_=>0) 0 (λ_=>0) c
abbrev KX:=Ex->T Value->AH->Prop
abbrev SC:=T Value->AH->KX->Prop
def sxBr(E:Env)(F:T Value)(b:Operand)(x y:T Value->Prop):Prop:=match b with
 | .tmp t=>(match F.get t with|some (.bool v)=>Sp v (setK F t (.bool true) x) (setK F t (.bool false) y)|_=>Stop b)
 |b=>(match ev E F b with|some (.bool v)=>Sp v (x F) (y F)|_=>Stop b)
theorem CB{b:Operand}{x y:T Value->Prop}(h:sxBr E F b x y):∃ t,ev E F b=some (.bool t)/\((t=true/\x F)∨(t=false/\y F)):=by
 unfold sxBr at h;split at h;rename_i t;split at h;· rename_i v a;refine⟨v,a,?_⟩;rcases h.cases with⟨f,h⟩|⟨f,h⟩;all_goals grind [pj,cJ]
 exact h.elim;split at h;rename_i v a;exact⟨v,a,h.cases⟩;exact h.elim
def qF(b:SC)(m:Nat)(K:KX):T Value->AH->Prop:=Nat.rec (motive:=λ_=>T Value->AH->Prop) (λ_ _=>False) (λ_ ih F A=>b F A (Then ih K)) m
def uG(X:SX)(A0:AH)(n:Nat)(body:Code)(b:SC):SC:=λF A K=>
 match X.lm (keyOf body)with
 | .unroll m=>qF b m K F A
 | .cutW ws m slots nx=>bif Nat.beq A0.next 0 then kL ws m slots nx F A (λF1 A1=>Leaf (W X.E A0 n (.loop body) K F1 A1))else nC A0.next ws m slots nx F A (λF1 A1=>Leaf (W X.E A0 n (.loop body) K F1 A1))
 | .auto ws slots=>bif Nat.beq A0.next 0 then yu ws slots F A (λF1 A1=>Leaf (W X.E A0 n (.loop body) K F1 A1))else uD A0.next ws slots F A (λF1 A1=>Leaf (W X.E A0 n (.loop body) K F1 A1))
 | .autoN ns zs ws slots=>bif Nat.beq A0.next 0 then uC X.E ns zs ws slots F A (λF1 A1=>Leaf (W X.E A0 n (.loop body) K F1 A1))else eX A0.next X.E ns zs ws slots F A (λF1 A1=>Leaf (W X.E A0 n (.loop body) K F1 A1))
 | .raw=>Leaf (W X.E A0 n (.loop body) K F A)
def lW(X:SX)(inl:Inl)(n:Nat)(ops:Array Oper)(draw:Bool):SC:=λF A K=>
 match draw with
 |false=>sxOps X.tab inl X.E X.el ops.toList n ops.toList F A (K .normal)
 |true=>sxReg X.tab X.E X.el ops ops.toList ops.toList.length n F A (K .normal)
def sxC(X:SX)(inl:Inl)(A0:AH)(n:Nat)(c:Code):SC:=
 Code.rec (motive:=λ_=>SC)
  (λF A K=>K .normal F A)
  (λ_ ops draw=>lW X inl n ops draw)
  (λ_ _ x y F A K=>x F A (Then (λF' A'=>y F' A' K) K))
  (λb _ _ x y F A K=>sxBr X.E F b (λF=>x F A K) (λF=>y F A K))
  (λid _ x F A K=>x F A (Blk id K))
  (λbody x=>uG X A0 n body x)
  (λ_ _ _ _ _ _ _ _ _=>False)
  (λid F A K=>K (.exit id) F A)
  (λ_ x F A K=>x F A K)
  (λ_ F A K=>K .normal F A)
  (λ_ _ _ _=>False)
  (λF A K=>K .ret F A)
  (λ_ _ _ _=>False) c
theorem jG{E:Env}{A0:AH}{n:Nat}{a:Code}{b:SC}(f:∀ F A K,b F A K->W E A0 n a K F A){K:KX}:∀ (m:Nat) (F:T Value) (A:AH),qF b m K F A->WR E A0 n a K m F A
 |0,F,A,h=>h.elim
 | m+1,F,A,h=>by
  refine WR.next ((f F A _ h).mono λg i A' q=>?_)
  cases g with
  |normal=>exact jG f m i A' q
  |exit id=>exact q
  |ret=>exact q
theorem AD{X:SX}(j:X.Ok){inl:Inl}(Q:yk X.E inl)(c:Code):∀ F A K,sxC X inl A0 n c F A K->W X.E A0 n c K F A:=by
 induction c with
 |skip=>intro F A K h;exact W.skip h
 |region id D z=>intro F A K h;have h:lW X inl n D z F A K:=h;unfold lW at h;cases z;exact W.sxOps j.ok j.sym j.tab Q h;exact W.sxReg j.ok j.sym j.tab h
 | seq a b H G=>
  intro F A K h;have h:sxC X inl A0 n a F A (Then (λI A'=>sxC X inl A0 n b I A' K) K):=h;refine W.seq ((H F A _ h).mono λR I A' q=>?_);cases R with
  |normal=>exact G I A' K q
  |exit id=>exact q
  |ret=>exact q
 |cond b x y O M=>intro F A K h;have h:sxBr X.E F b (λF=>sxC X inl A0 n x F A K) (λF=>sxC X inl A0 n y F A K):=h;grind [CB,W.cond]
 |block id b C=>intro F A K h;exact W.block (C F A _ h)
 | loop b C=>
  intro F A K h;have h:uG X A0 n b (sxC X inl A0 n b) F A K:=h;unfold uG at h;split at h;rename_i m _;exact W.rounds m (jG (λF A K h=>C F A K h) m F A h);rename_i ws m slots nx _;cases r:Nat.beq A0.next 0
  rw[r]at h;have h:nC A0.next ws m slots nx F A (λg i=>Leaf (W X.E A0 n (.loop b) K g i)):=h
  obtain⟨g,i,k,u⟩:=jE (E:=X.E) j.gl (A0:=A0) (n:=n) h;exact W.turns u k.get;rw[r]at h;have h:kL ws m slots nx F A (λg i=>Leaf (W X.E A0 n (.loop b) K g i)):=h;obtain⟨g,i,k,u⟩:=lU (E:=X.E) j.gl (Ho r) (n:=n) h;exact W.turns u k.get;rename_i ws slots _;cases r:Nat.beq A0.next 0
  rw[r]at h;have h:uD A0.next ws slots F A (λg i=>Leaf (W X.E A0 n (.loop b) K g i)):=h
  obtain⟨g,i,k,u⟩:=jE (E:=X.E) j.gl (A0:=A0) (n:=n) h;exact W.turns u k.get;rw[r]at h;have h:yu ws slots F A (λg i=>Leaf (W X.E A0 n (.loop b) K g i)):=h;obtain⟨g,i,k,u⟩:=qD (E:=X.E) j.gl (Ho r) (n:=n) h;exact W.turns u k.get;rename_i L J ws slots _;cases r:Nat.beq A0.next 0
  rw[r]at h;have h:eX A0.next X.E L J ws slots F A (λg i=>Leaf (W X.E A0 n (.loop b) K g i)):=h
  obtain⟨g,i,k,u⟩:=cQ (E:=X.E) j.ok j.gl (A0:=A0) (n:=n) h;exact W.turns u k.get;rw[r]at h;have h:uC X.E L J ws slots F A (λg i=>Leaf (W X.E A0 n (.loop b) K g i)):=h;obtain⟨g,i,k,u⟩:=qB (E:=X.E) j.ok j.gl (Ho r) (n:=n) h;exact W.turns u k.get;exact h.get
 |rangeFunc f S a b=>intro F A K h;exact False.elim h
 |exit id=>intro F A K h;exact W.exit h
 |scope b C=>intro F A K h;exact W.scope (C F A K h)
 |label l=>intro F A K h;exact W.label h
 |goto l=>intro F A K h;exact False.elim h
 |ret=>intro F A K h;exact W.ret h
 |refuse s=>intro F A K h;exact False.elim h
def finK(E:Env)(rs:List ResultVar)(K:KV):KX:=λex F A=>
 match ex with
 | .exit _=>False
 |_=>(match cz E A F rs with|some v=>K v A|none=>False)
theorem eG{K:KV}{b:Ex}(h:finK E fn.results.toList K b F A):Fin E fn K b F A:=by
 cases b with
 |exit id=>exact h.elim
 |normal=>have h:(match cz E A F fn.results.toList with|some v=>K v A|none=>False):=h;split at h;rename_i v a;exact .normal a h;exact h.elim
 |ret=>have h:(match cz E A F fn.results.toList with|some v=>K v A|none=>False):=h;split at h;rename_i v a;exact .ret a h;exact h.elim
def bodyK(X:SX)(inl:Inl)(A0:AH)(fn:Func)(c:Code)(args:Lh)(K:KV):Prop:=
 match b8 args 0 .leaf with
 |some F=>bif Nat.ble args.length fn.ntmps then sxC X inl A0 fn.ntmps c F A0 (finK X.E fn.results.toList K)else False
 |none=>False
def inl1(X:SX)(ih:Inl):Inl:=λfn args A K=>match fn.body with
 |some c=>bodyK ⟨X.E,X.tab,X.el,λ_=>.unroll 12⟩ ih A fn c args K
 |none=>False
def inlN(X:SX)(d:Nat):Inl:=Nat.rec (motive:=λ_=>Inl) (λ_ _ _ _=>False) (λ_ ih=>inl1 X ih) d
theorem wr{X:SX}(b:X.Ok):∀ d,yk X.E (inlN X d)
 |0=>λg fn _ a A K h=>by exact False.elim h
 |d+1=>λg fn f a A K h σ w l R r y=>by have h:inl1 X (inlN X d) fn a A K:=h;unfold inl1 at h;split at h;rename_i c u;unfold bodyK at h;split at h;rename_i F C;cases i:Nat.ble a.length fn.ntmps;rw[i]at h;exact h.elim;rw[i]at h;have j:SX.Ok ⟨X.E,X.tab,X.el,λ_=>.unroll 12⟩:=⟨b.ok,b.sym,b.gl,b.tab⟩;have z:=(AD j (wr b d) c F A _ h).mono (R:=Fin X.E fn K) λH I A' q=>eG q;refine(kn b.ok f u C (IF i) z R r y).mono λe D G=>?_;grind;exact h.elim;exact h.elim
def sx(X:SX)(d:Nat)(a:AH)(n:Nat)(c:Code):SC:=sxC X (inlN X d) a n c
theorem ik{X:SX}(a:X.Ok){c:Code}{K:KX}(h:sx X d A0 n c F A K):W X.E A0 n c K F A:=AD a (wr a d) c F A K h
def qZ:Nat->Value->Bool
 |0,_=>false
 | k+1,v=>match v with
   | .agg ⟨xs⟩=>xs.all (qZ k)
   | .tuple ⟨xs⟩=>xs.all (qZ k)
   | .iface _ x=>qZ k x
   | .func (.yield _) _ _=>true
   |v=>scal v
def vV(Q:Value->Prop)(a:KV):KV:=λv A=>match qZ 8 v with|true=>Q v|false=>a v A
theorem zC{Q:Value->Prop}{a:KV}(h:vV Q a v A):Q v∨a v A:=by grind [vV]
def ay(a:Func):Code:=match a.body with|some c=>c|none=>.skip
def an:Code->Code
 | .loop b=>b
 |c=>c
def iV:Code->Bool
 | .loop _=>true
 |_=>false
theorem j9{c:Code}(h:iV c=true):c=.loop (an c):=by cases c<;>first|rfl|(simp[iV]at h)
def subC:Lg->Code->Code
 | [],c=>c
 | i::p,c=>match c with
   | .seq a b=>bif Nat.beq i 0 then subC p a else subC p b
   | .cond _ a b=>bif Nat.beq i 0 then subC p a else subC p b
   | .block _ b=>subC p b
   | .scope b=>subC p b
   | .loop b=>subC p b
   |c=>c
def ctxK(X:SX)(d:Nat)(n:Nat):Lg->Code->KX->KX
 | [],_,K=>K
 | i::p,c,K=>match c with
   | .seq a b=>bif Nat.beq i 0 then ctxK X d n p a (Then (λF A=>sx X d ⟨.leaf,0⟩ n b F A K) K)else ctxK X d n p b K
   | .cond _ a b=>bif Nat.beq i 0 then ctxK X d n p a K else ctxK X d n p b K
   | .block id b=>ctxK X d n p b (Blk id K)
   | .scope b=>ctxK X d n p b K
   |_=>K
def LAt(X:SX)(d n:Nat)(c:Code)(p:Lg)(K:KX)(F:T Value)(A:AH):Prop:=Leaf (W X.E ⟨.leaf,0⟩ n (subC p c) (ctxK X d n p c K) F A)
def stepK(X:SX)(d:Nat)(a:Func)(p:Lg)(K:KV)(m:Ld)(b:Lg)(c:Nat)(e:KF):KX:=Then (λF' A'=>tellK m b c F' A' e) (ctxK X d a.ntmps p (ay a) (finK X.E a.results.toList K))
def sxStep(X:SX)(d:Nat)(a:Func)(p:Lg)(K:KV)(m:Ld)(b:Lg)(c:Nat)(e:KF)(F:T Value)(A:AH):Prop:=sx X d ⟨.leaf,0⟩ a.ntmps (an (subC p (ay a))) F A (stepK X d a p K m b c e)
theorem LAt.intro{X:SX}(g:X.Ok){c:Code}{p:Lg}{K:KX}(ws:Lg)(m:Ld)(slots:Lg)(nx:Nat)(i:iV (subC p c)=true)(I:Nat->T Value->AH->Prop)
 (b:∀ k F A,I k F A->sx X d ⟨.leaf,0⟩ n (an (subC p c)) F A (Then (λf A'=>kL ws m slots nx f A' (λF1 A1=>∃ a,a<k/\I a F1 A1)) (ctxK X d n p c K))) (h:I k F A):LAt X d n c p K F A:=by
 refine .mk ?_;rw[j9 i];refine W.loopT I (λk F A j=>?_) h Turns.refl;refine(ik g (b k F A j)).mono λy f A' q=>?_;cases y with
 |normal=>have q:kL ws m slots nx f A' (λF1 A1=>∃ a,a<k/\I a F1 A1):=q;obtain⟨F1,A1,⟨a,u,r⟩,l⟩:=lU (E:=X.E) g.gl (A0:=⟨.leaf,0⟩) rfl (n:=n) q;exact⟨a,F1,A1,u,r,l⟩
 |exit id=>exact q
 |ret=>exact q
theorem LAt.step{X:SX}(g:X.Ok){d:Nat}{fn:Func}{p:Lg}{K:KV}{F:T Value}{A:AH}(m:Ld)(slots:Lg)(nx:Nat)(f:iV (subC p (ay fn))=true)(I:Nat->T Value->AH->Prop)
 (a:∀ k F A,I k F A->sxStep X d fn p K m slots nx (λF1 A1=>∃ b,b<k/\I b F1 A1) F A) {k:Nat}(h:I k F A):LAt X d fn.ntmps (ay fn) p (finK X.E fn.results.toList K) F A:=
 LAt.intro g [] m slots nx f I a h
def ptr0:Value:=.pointer (some ⟨0,0,none⟩)
theorem dh(q:E.Ok)(g:GlOk E){f:FuncId}(i:E.fn f=some fn){b:Lh->Ll}{a:Lh->Lj}(h:∀ args v,a args=some v->PH (b args)->(∀x∈args,HF x)/\Walk E fn args v):
 ∀args A p v A',bg b a args A=some (p,v,A')->PH p->CallAt E f args A v A':=
 fM λargs v j l A=>c8 q g i (h args v j l).1 (h args v j l).2 A
end
end Go.AM
namespace Go.MK
open Go Go.AM
noncomputable section
theorem _root_.Go.IY:type_of% @List.cons_append:=@List.cons_append
theorem _root_.Go.Jf:type_of% @List.getElem?_cons_succ:=@List.getElem?_cons_succ
theorem _root_.Go.Hz:type_of% @List.length_set:=@List.length_set
variable {K V:Type}[DecidableEq K]
def aget:List (K×V)->K->Option V
 | [],_=>none
 |x::m,k=>if x.1=k then some x.2 else aget m k
def aset:List (K×V)->K->V->List (K×V)
 | [],k,v=>[(k,v)]
 |x::m,k,v=>if x.1=k then(k,v)::m else x::aset m k v
def aidx:List (K×V)->K->Nat->Option (Nat×V)
 | [],_,_=>none
 |x::m,k,i=>if x.1=k then some (i,x.2)else aidx m k (i+1)
variable {E:Env}{k:K}{kv:K->Value}{et kt t:TypeId}{z:Value}
def aV(kv:K->Value)(vv:V->Value):List (K×V)->Nat->Lc
 | [],_=>[]
 |x::m,i=>(kv x.1,vv x.2,i)::aV kv vv m (i+1)
def ents(a:K->Value)(b:V->Value)(m:List (K×V)):Lc:=aV a b m 0
def inv(c:Value->K)(b:Value->V)(a:Lc):List (K×V):=a.map λx=>(c x.1,b x.2.1)
theorem mC{a:V->Value}{d:Value->K}{c:Value->V}(g:∀ k,d (kv k)=k)(f:∀ v,c (a v)=v)(m:List (K×V)):inv d c (ents kv a m)=m:=by
 have b:∀ (m:List (K×V)) (i:Nat),(aV kv a m i).map (λx=>(d x.1,c x.2.1))=m:=by
  intro m;induction m with
  |nil=>intro i;rfl
  |cons x m e=>grind [aV,Ia]
 exact b m 0
theorem fq(kv:K->Value)(a:V->Value):∀ (m:List (K×V)) (i:Nat),(aV kv a m i).length=m.length
 | [],_=>rfl
 |x::m,i=>by simp only[aV,HW,fq kv a m]
theorem qi(kv:K->Value)(a:V->Value)(m:List (K×V)):(ents kv a m).length=m.length:=fq kv a m 0
theorem qy{b:V->Value}(h:∀ v,HF (b v))(m:List (K×V)):HF (.agg ⟨(ents kv b m).map λx=>x.2.1⟩):=.agg λx a=>by
 have c:∀ (m:List (K×V)) (i:Nat),∀x∈(aV kv b m i).map (λx=>x.2.1),HF x:=by
  intro m;induction m with
  |nil=>intro i x a;simp[aV]at a
  |cons y m d=>intro i x a;simp only[aV,Ia,HE]at a;grind
 exact c m 0 x a
theorem ye{m:List (K×V)}:∀ {i:Nat},aidx m k i=none->aget m k=none:=by
 induction m with
 |nil=>intro i _;rfl
 |cons x m a=>intro i h;unfold aidx at h;unfold aget;grind
theorem ig{m:List (K×V)}:∀ {i j:Nat}{v:V},aidx m k i=some (j,v)->aget m k=some v/\∃ q,j=i+q/\m[q]? =some (k,v):=by
 induction m with
 |nil=>intro i j v h;cases h
 |cons x m b=>intro i j v h;unfold aidx at h;unfold aget;split at h;rename_i e;cases h;grind;rename_i a;rw[Hm a];obtain⟨d,q,f,c⟩:=b h;exact⟨d,q+1,by omega,by simpa using c⟩
theorem x6{m:List (K×V)}{v:V}:∀ {i:Nat},aidx m k i=none->aset m k v=m++[(k,v)]:=by
 induction m with
 |nil=>intro i _;rfl
 |cons x m a=>intro i h;unfold aidx at h;unfold aset;grind
theorem x5{m:List (K×V)}{v:V}:∀ {i j:Nat}{u:V},aidx m k i=some (j,u)->aset m k v=m.set (j-i) (k,v):=by
 induction m with
 |nil=>intro i j u h;cases h
 |cons x m b=>intro i j u h;obtain⟨_,q,e,_⟩:=ig h;unfold aidx at h;unfold aset;split at h;simp_all;rename_i a;obtain⟨_,d,c,_⟩:=ig h;rw[Hm a,b h,show j-i=(j-(i+1))+1 by omega,List.set_cons_succ]
theorem ft(kv:K->Value)(a:V->Value):∀ (m l:List (K×V)) (i:Nat),aV kv a (m++l) i=aV kv a m i++aV kv a l (i+m.length)
 | [],l,i=>by simp[aV]
 |x::m,l,i=>by simp only[IY,aV,ft kv a m l,HW];grind
theorem iZ(kv:K->Value)(a:V->Value):∀ (m:List (K×V)) (i q:Nat) (x:K×V),m[q]? =some x->(aV kv a m i)[q]? =some (kv x.1,a x.2,i+q)
 | [],i,q,x,h=>by simp at h
 |y::m,i,0,x,h=>by simp at h;subst h;rfl
 |y::m,i,q+1,x,h=>by have:=iZ kv a m (i+1) q x (by simpa using h);grind [aV,Jf]
theorem iY(kv:K->Value)(a:V->Value)(k:K)(v:V):∀ (m:List (K×V)) (i q:Nat),q<m.length->aV kv a (m.set q (k,v)) i=(aV kv a m i).set q (kv k,a v,i+q)
 | [],i,q,h=>by simp at h
 |y::m,i,0,h=>rfl
 |y::m,i,q+1,h=>by simp only[List.set_cons_succ,aV,iY kv a k v m (i+1) q (by simpa using h)];rw[show i+1+q=i+(q+1)by omega]
structure KeyOk (E:Env) (t kt et:TypeId) (kv:K->Value) (z:Value):Prop where
 und:AM.und E t=some (.map kt et)
 flat:∀ k,AM.flat (kv k)=true
 ok:∀ emp k,gN E emp kt (kv k)=true
 eq:∃ kind,AM.und E kt=some kind/\((∀a b,jS kind (kv a) (kv b)=some (decide (a=b)))∨((∀a b,jS kind (kv a) (kv b)=none)/\∀ a b,oD E kt (kv a) (kv b)=some (decide (a=b))))
 bits:∀ k,Instr.sameBits 10000 (kv k) (kv k)=true
 zero:∃ i,E.ti et=some i/\i.zero=some z/\AM.flat z=true
theorem lE{kind:TypeDesc}{kv:K->Value}{c:V->Value}(h:∀ a b,jS kind (kv a) (kv b)=some (decide (a=b)))(k:K):∀ (m:List (K×V)) (b i:Nat),
 eU kind (kv k) (aV kv c m b) i=some ((aidx m k i).map λx=>(x.1,c x.2))
 | [],b,i=>rfl
 |x::m,b,i=>by simp only[aV,eU,h];by_cases e:x.1=k;simp[aidx,e];have d:¬ k=x.1:=λh=>e h.symm;simp only[d,IV,aidx,Hm e];exact lE h k m _ _
theorem iX{E:Env}{kt:TypeId}{kv:K->Value}{c:V->Value}(h:∀ a b,oD E kt (kv a) (kv b)=some (decide (a=b)))(k:K):∀ (m:List (K×V)) (b i:Nat),
 cZ E kt (kv k) (aV kv c m b) i=some ((aidx m k i).map λx=>(x.1,c x.2))
 | [],b,i=>rfl
 |x::m,b,i=>by simp only[aV,cZ,h];by_cases e:x.1=k;simp[aidx,e];have d:¬ k=x.1:=λh=>e h.symm;simp only[d,IV,aidx,Hm e];exact iX h k m _ _
theorem lD(h:KeyOk E t kt et kv z)(b:V->Value)(k:K)(m:List (K×V)):
 iH E kt (kv k) (ents kv b m)=some ((aidx m k 0).map λx=>(x.1,b x.2)):=by
 obtain⟨a,d,e⟩:=h.eq;unfold iH ents;rw[d];simp only;rcases e with c|⟨c,f⟩;rw[lE c];cases m with
 |nil=>rfl
 |cons x m=>
 have:eU a (kv k) (aV kv b (x::m) 0) 0=none:=by simp only[aV,eU,c]
 grind [iX]
theorem ka(h:KeyOk E t kt et kv z)(a:V->Value)(k:K)(m:List (K×V)):
 bY E t (ents kv a m) (kv k)=some (match aget m k with|some v=>(a v,true)|none=>(z,false)):=by
 obtain⟨i,e,d,c⟩:=h.zero;unfold bY;rw[h.und];simp only[h.flat,h.ok,IH,C',lD h a k m];cases b:aidx m k 0 with
 |none=>rw[ye b];grind
 |some x=>obtain⟨j,v⟩:=x;rw[(ig b).1];rfl
theorem lT(h:KeyOk E t kt et kv z)(a:V->Value)(k:K)(v:V)(m:List (K×V)):
 aR E t (ents kv a m) m.length (kv k) (a v)=some (ents kv a (aset m k v),(aset m k v).length):=by
 unfold aR;rw[h.und];simp only[h.flat,h.ok,IH,C',lD h a k m];cases d:aidx m k 0 with
 |none=>grind [x6,aV,ft,ents,E',HW,Jw]
 |some x=>
 obtain⟨j,u⟩:=x;obtain⟨_,q,g,f⟩:=ig d;rw[x5 d];have c:j=q:=by omega
 subst c;have e:nth (ents kv a m) j=some (kv k,a u,j):=by rw[aP];grind [iZ,ents]
 simp only[Ik,e,h.bits,C',Kd,Hz];have b:j<m.length:=(Hx.1 f).1;have:=iY kv a k v m 0 j b;simp only[ents,this,IW]
end
end Go.MK
namespace Go.AM
noncomputable section
variable {A A0 A1 A2 N:AH}{o o1:AObj}{c:Code}{E:Env}{fn:Func}{m:Ld}{ws:Lg}{args els tl:Lh}{p:Li}{B B2 d k k1 n nx:Nat}{ρ ρ' ρf:Nat->Lk}{g:Nat->Option AObj}{NL:Nat->Prop}{P:Program}{X:SX}{σ:Sig}{t1 tA:T AObj}{F:T Value}{e:TypeId}{ar:TypeId->Lk}{v v' v2:Value}{w w':World}
def kQ(X:SX)(d:Nat)(n:Nat)(A0:AH):Lg->Code->KX->KX
 | [],_,K=>K
 | i::p,c,K=>match c with
   | .seq a b=>bif Nat.beq i 0 then kQ X d n A0 p a (Then (λF A=>sx X d A0 n b F A K) K)else kQ X d n A0 p b K
   | .cond _ a b=>bif Nat.beq i 0 then kQ X d n A0 p a K else kQ X d n A0 p b K
   | .block id b=>kQ X d n A0 p b (Blk id K)
   | .scope b=>kQ X d n A0 p b K
   |_=>K
def LAtZ(X:SX)(d n:Nat)(a:AH)(c:Code)(p:Lg)(K:KX)(F:T Value)(A:AH):Prop:=Leaf (W X.E a n (subC p c) (kQ X d n a p c K) F A)
def stepZ(X:SX)(d n:Nat)(h:AH)(c:Code)(p:Lg)(K:KX)(g:List (NPos×TypeId×Nat))(a:List NPos)(b e:Lg)(f:KF):KX:=Then (λF' A'=>uC X.E g a b e F' A' f) (kQ X d n h p c K)
def Cv(X:SX)(d n:Nat)(a:AH)(c:Code)(p:Lg)(K:KX)(h:List (NPos×TypeId×Nat))(b:List NPos)(e f:Lg)(g:KF)(F:T Value)(A:AH):Prop:=sx X d a n (an (subC p c)) F A (stepZ X d n a c p K h b e f g)
theorem LAtZ.step{X:SX}(f:X.Ok){d n:Nat}{A0:AH}(t:A0.next=0){c:Code}{p:Lg}{K:KX}{F:T Value}{A:AH}(ns:List (NPos×TypeId×Nat))(zs:List NPos)(ws slots:Lg)(i:iV (subC p c)=true)(I:Nat->T Value->AH->Prop)
 (b:∀ k F A,I k F A->Cv X d n A0 c p K ns zs ws slots (λF1 A1=>∃ a,a<k/\I a F1 A1) F A) {k:Nat}(h:I k F A):LAtZ X d n A0 c p K F A:=by
 refine .mk ?_;rw[j9 i];refine W.loopT I (λk F A j=>?_) h Turns.refl;refine(ik f (b k F A j)).mono λu x y q=>?_;cases u with
 |normal=>have q:uC X.E ns zs ws slots x y (λF1 A1=>∃ a,a<k/\I a F1 A1):=q;obtain⟨F1,A1,⟨a,s,r⟩,l⟩:=qB (E:=X.E) f.ok f.gl (A0:=A0) t (n:=n) q;exact⟨a,F1,A1,s,r,l⟩
 |exit id=>exact q
 |ret=>exact q
def stepF(X:SX)(d n:Nat)(a:AH)(c:Code)(p:Lg)(K:KX)(h:List (NPos×TypeId×Nat))(b:List NPos)(e f:Lg)(g:KF):KX:=Then (λF' A'=>eX a.next X.E h b e f F' A' g) (kQ X d n a p c K)
def aI(X:SX)(d n:Nat)(a:AH)(c:Code)(p:Lg)(K:KX)(h:List (NPos×TypeId×Nat))(b:List NPos)(e f:Lg)(g:KF)(F:T Value)(A:AH):Prop:=sx X d a n (an (subC p c)) F A (stepF X d n a c p K h b e f g)
theorem LAtZ.stepF(f:X.Ok){p:Lg}{K:KX}(ns:List (NPos×TypeId×Nat))(zs:List NPos)(ws slots:Lg)(i:iV (subC p c)=true)(I:Nat->T Value->AH->Prop)
 (b:∀ k F A,I k F A->aI X d n A0 c p K ns zs ws slots (λF1 A1=>∃ a,a<k/\I a F1 A1) F A) (h:I k F A):LAtZ X d n A0 c p K F A:=by
 refine .mk ?_;rw[j9 i];refine W.loopT I (λk F A j=>?_) h Turns.refl;refine(ik f (b k F A j)).mono λt u x q=>?_;cases t with
 | normal=>
  have q:eX A0.next X.E ns zs ws slots u x (λF1 A1=>∃ a,a<k/\I a F1 A1):=q
  obtain⟨F1,A1,⟨a,s,r⟩,l⟩:=cQ (E:=X.E) f.ok f.gl (A0:=A0) (n:=n) q;exact⟨a,F1,A1,s,r,l⟩
 |exit id=>exact q
 |ret=>exact q
def stepR(X:SX)(d n:Nat)(a:AH)(c:Code)(p:Lg)(K:KX)(b:KF):KX:=Then b (kQ X d n a p c K)
def Cw(X:SX)(d n:Nat)(a:AH)(c:Code)(p:Lg)(K:KX)(b:KF)(F:T Value)(A:AH):Prop:=sx X d a n (an (subC p c)) F A (stepR X d n a c p K b)
theorem LAtZ.stepR(l:X.Ok){p:Lg}{K:KX}(j:iV (subC p c)=true)(I:Nat->T Value->AH->Prop)
 (b:∀ k F A,I k F A->Cw X d n A0 c p K (λF1 A1=>∃ a,a<k/\∃ f A2,I a f A2/\Turns X.E A0 n F1 A1 f A2) F A) {F1:T Value}(h:I k F1 A1) (i:Turns X.E A0 n F A F1 A1):LAtZ X d n A0 c p K F A:=by
 refine .mk ?_;rw[j9 j];refine W.loopT I (λk F A r=>?_) h i;refine(ik l (b k F A r)).mono λx y z q=>?_;cases x with
 |normal=>obtain⟨a,u,F1,A1,t,s⟩:∃ a,a<k/\∃ f A2,I a f A2/\Turns X.E A0 n y z f A2:=q;exact⟨a,F1,A1,u,t,s⟩
 |exit id=>exact q
 |ret=>exact q
theorem lz(C:E.Ok){f:FuncId}(q:E.fn f=some fn)(i:fn.body=some c){Q:Value->AH->Prop}
 (h:b8 args 0 .leaf=some F) (Z:args.length<=fn.ntmps) (S:W E A0 fn.ntmps c (Fin E fn Q) F A) {σ0:Sig}{w0:World}{a:Lh}(R:Rel E.P σ A w) (M:Glob E σ) (O:Ext σ0 A0 w0 σ A w) (G:VRs σ args a):
 Calls E.P f ⟨a⟩ w (λe w'=>∃ v v' A' σ',e=.returned v'/\Q v A'/\VR σ' v v'/\Rel E.P σ' A' w'/\Ext σ0 A0 w0 σ' A' w'):=by
 have D:=G.length;have x:FR σ F fn.ntmps {tmps:=(⟨a⟩:Array Value)++Array.replicate (fn.ntmps-(⟨a⟩:Array Value).size) undef,defers:=[]}:=by refine⟨by simp;omega,λt V b=>?_,rfl⟩;unfold slot at b;rw[ez h t]at b;simp only;rw[H8,JG];by_cases Y:t<args.length;rw[Ht ⟨Jp _,by omega⟩,Kd]at b;rw[Ht (by simp;omega)];obtain⟨u,h1,h2⟩:=G.get b;grind;rw[Hm (by omega)]at b;cases b
 refine calls_of_wp (C.fn f fn q) i (S σ0 w0 _ w ⟨σ,x,R,M,O⟩ _ λex F' A' H w' L s=>?_);obtain⟨r,v,l,U⟩:=L;obtain⟨σ',z,y,_,K⟩:=s;obtain⟨v',J,I⟩:=iu C y z l;have j:H.defers=[]/\∃ u,(results fn H.tmps).run E.P w'=.ok u w'/\(λe w'=>∃ v v' A' σ',e=Ending.returned v'/\Q v A'/\VR σ' v v'/\Rel E.P σ' A' w'/\Ext σ0 A0 w0 σ' A' w') (.returned u) w':=⟨z.defers,v',J,v,v',A',σ',rfl,U,I,y,K⟩;rcases r with rfl|rfl<;>exact j
theorem RVs.move:∀ {l f:Lh},RVs ρ l f->∀ {l':Lh},VRs σ l l'->VRs (sigT ρ σ) f l'
 |_,_,.nil,_,.nil=>.nil
 |_,_,.cons h t,_,.cons a b=>.cons (h.move _ a) (RVs.move t b)
theorem Rel.ren(R:Rel P σ A w){O:List (Nat×AObj)}(H:bq nx m=true)(hh:ofL O .leaf=some t1)(Y:RenH m A O):Rel P (sigT (back m) σ) ⟨t1,nx⟩ w:=by
 have i:∀ {a:Nat}{o1:AObj},t1.get a=some o1->∃ B o,back m a=some B/\A.t.get B=some o/\RO (back m) o o1:=λh=>by rcases dD hh h with h|h;exact Y.mem h;simp[T.get]at h
 refine⟨?_,?_,?_,?_,R.ro,?_,λa h=>?_⟩;intro a o1 h q;obtain⟨B,o,l,j,r⟩:=i h;rcases R.obj0 B o j (by rw[<-r.here];exact q)with⟨b,d,c,L,K⟩|⟨L,K⟩;exact .inl ⟨b,d,c,dw l L,r.move K⟩;exact .inr ⟨r.nilOk.trans L,B,l,K⟩;intro B1 B2 o1 o2 V x2 l j C I G y u;obtain⟨C1,p1,U,a2,a3⟩:=i l;obtain⟨C2,Z,S,b2,b3⟩:=i j;obtain⟨D1,s,M⟩:=bN y;obtain⟨D2,Q,e2⟩:=bN u;rw[U]at s;cases s;rw[S]at Q;cases Q;exact R.inj C1 C2 p1 Z V x2 a2 b2 (by rw[<-a3.own];exact C) (by rw[<-b3.here];exact I) (λe=>by subst e;exact G (dt H U S)) M e2;intro a x z;obtain⟨B,_,j⟩:=bN z;exact R.lt B x j;intro a J;show(back m a).bind σ.f=none;cases hb:back m a with
 |none=>rfl
 |some B=>exact absurd (cx H (ba hb)) (by simp at J;omega)
 intro a o1 x h C z;obtain⟨B,o,l,j,r⟩:=i h;obtain⟨D,s,M⟩:=bN z;rw[l]at s;cases s;exact R.sep B o x j (by rw[<-r.own];exact C) M;obtain⟨B,l,j⟩:=h;refine⟨cx H (ba l),?_⟩;show(back m a).bind σ.f=none;rw[l];exact(R.nl B j).2
def gvn(σ:Sig)(m:Ld)(b:Nat):Prop:=∃ x∈m,∃y,σ x.2=some y/\y.1=b
open Classical in
theorem Rel.more{P:Program}{σ:Sig}{A:AH}{w w':World}(R:Rel P σ A w)(h:∀ b,b<w.heap.size->w'.heap[b]? =w.heap[b]?)(j:w.heap.size<=w'.heap.size):Rel P σ A w':=by refine⟨λB o q l=>?_,R.inj,λB x i=>It (R.lt B x i) j,R.fresh,λb o f=>?_,R.sep,R.nl⟩;rcases R.obj0 B o q l with⟨b,d,c,a,r⟩|a;exact .inl ⟨b,d,c,a,by rw[h b (R.lt B _ a)];exact r⟩;exact .inr a;rw[h b (iW (R.ro b o f))];exact R.ro b o f
theorem Ext.more(h:∀ b,b<w.heap.size->w'.heap[b]? =w.heap[b]?)(j:w.heap.size<=w'.heap.size)(s:w'.os=w.os)(r:w'.tape=w.tape)(q:w'.output=w.output):Ext σ A w σ A w':=
 ⟨λ_ _=>rfl,Hw _,j,λb l _=>h b l,λB o x i f a=>.inr ⟨B,o,x,i,f,a,rfl⟩,λB o x i f a=>.inr ⟨B,o,x,i,f,a,rfl⟩,s,r,q,λ_ _ h=>h,λ_ _ h=>.inl h,λ_ _=>JC⟩
abbrev _root_.Go.IL:=@Classical.byContradiction
open Classical in
def sigF(σ σ2:Sig)(N:Nat)(m m2:Ld)(w:World):Sig:=
 ⟨λB=>if B<N then σ.f B else(back m2 B).bind σ2.f,λb=>if b<w.heap.size/\¬ gvn σ m b then σ.ro b else σ2.ro b,λB=>if B<N then σ.nl B else ∃j,back m2 B=some j/\σ2.nl j⟩
theorem tY{a:Sig}{r:Ld}{lh lo:List (Nat×AObj)}(R:Rel P σ A w)
 (hm:bq k m=true) (hk:∀ i,i<k->∃ B,back m i=some B) (hh:ofL lh .leaf=some t1) (rh:RenH m A lh) (b5:∀ x∈m,∃o,A.t.get x.2=some o/\o.own=true)
 (R2:Rel P a A2 w') (X:Ext (sigT (back m) σ) ⟨t1,k⟩ w a A2 w') (d9:VR a v2 v')
 (a7:bq nx r=true) (hN:A.next<=nx) (d7:∀ i B,i<k->back m i=some B->back r B=some i) (d5:∀ x∈r,x.2<k∨A.next<=x.1) (rl:RenH r A2 lo) (hv:RV (back r) v2 v)
 (d4:∀ B o,tA.get B=some o->(B,o)∈lo∨((∀x∈m,x.2≠B)/\A.t.get B=some o)):
 ∃σ',VR σ' v v'/\Rel P σ' ⟨tA,nx⟩ w'/\Ext σ A w σ' ⟨tA,nx⟩ w':=by
 have e0:∀ x∈m,x.1<k:=λx s=>cx hm (B':=x.1) (B:=x.2) s;have e4:∀ {B':Nat}{x:Nat×Nat×Nat},(sigT (back m) σ) B'=some x->∃ B,back m B'=some B/\σ B=some x:=λh=>bN h;have d0:∀ {V:Nat}{x:Nat×Nat×Nat},(sigT (back m) σ) V=some x->gvn σ m x.1:=fun {V x} h2=>by obtain⟨B,C,hs⟩:=bN h2;exact⟨_,ba C,x,hs,rfl⟩
 have U:∀ b,b<w.heap.size->¬ gvn σ m b->w'.heap[b]? =w.heap[b]?:=λb C hn=>X.frame b C λV o x h1 h2 h3 e=>hn (e▸d0 h3);have d1:∀ b o,σ.ro b=some o->¬ gvn σ m b:=λb o h ⟨x,s,y,hy,e⟩=>by obtain⟨o',c4,c2⟩:=b5 x s;have:=R.sep x.2 o' y c4 c2 hy;rw[e,h]at this;cases this
 have d3:∀ {b:Nat},gvn σ m b->∃ V o0 x0,A.t.get V=some o0/\o0.own=true/\σ V=some x0/\x0.1=b:=fun {b} ⟨x,s,y,hy,e⟩=>by grind
 have d6:∀ B o,A.t.get B=some o->o.here=true->B<A.next:=λB o h H=>by
  rcases R.obj0 B o h H with⟨b,d,c,D,_⟩|⟨_,u⟩;rcases IP B A.next with q|q
  exact q;rw[R.fresh B q]at D;cases D;exact(R.nl B u).1
 have c0:∀ j o x,A2.t.get j=some o->o.here=true->a j=some x->¬ (x.1<w.heap.size/\¬ gvn σ m x.1):=λj o x Y H s ⟨S,O⟩=>by rcases X.orig2 j o x Y H s with k1|⟨V,o0,x0,k1,k2,k3,k4⟩;omega;exact O (k4▸d0 k3)
 have l:∀ B,B<A.next->(sigF σ a A.next m r w) B=σ B:=λB h=>Ht h
 have c1:∀ B,¬B<A.next->(sigF σ a A.next m r w) B=(back r B).bind a.f:=λB h=>Hm h
 have M:∀ B,B<A.next->((sigF σ a A.next m r w).nl B↔σ.nl B):=λB h=>by show(if B<A.next then σ.nl B else _)↔_;rw[Ht h]
 have c6:∀ B,¬B<A.next->((sigF σ a A.next m r w).nl B↔∃ j,back r B=some j/\a.nl j):=λB h=>by show(if B<A.next then σ.nl B else _)↔_;rw[Hm h]
 have L:∀ b,b<w.heap.size/\¬ gvn σ m b->(sigF σ a A.next m r w).ro b=σ.ro b:=λb h=>Ht h;have Q:∀ b,¬(b<w.heap.size/\¬ gvn σ m b)->(sigF σ a A.next m r w).ro b=a.ro b:=λb h=>Hm h;have J:∀ B j,back r B=some j->(sigF σ a A.next m r w) B=a j/\((sigF σ a A.next m r w).nl B↔a.nl j):=λB j C=>by
  by_cases Z:B<A.next
  · have hj:j<k:=by rcases d5 _ (ba C)with q|q;all_goals grind
    obtain⟨V,a8⟩:=hk j hj;have e:=dt a7 C (d7 j V hj a8);subst e;have e1:a j=(sigT (back m) σ) j:=X.sig j hj;have e2:(sigT (back m) σ) j=σ B:=by show(back m j).bind σ.f=σ.f B;rw[a8];rfl
    refine⟨by rw[l B Z,e1,e2],(M B Z).trans ?_⟩;refine Iff.trans ⟨λh=>⟨B,a8,h⟩,λ⟨B',h1,h2⟩=>?_⟩ (X.snl j hj).symm;rw[a8]at h1;cases h1;exact h2
  grind
 have b0:σ.sub (sigF σ a A.next m r w):=⟨λB x h=>by
  have Z:B<A.next:=by
   rcases IP B A.next with q|q
   exact q;have:=R.fresh B q;grind
  exact(l B Z).trans h,λb o h=>(L b ⟨iW (R.ro b o h),d1 b o h⟩).trans h⟩
 have a9:(sigT (back r) a).sub (sigF σ a A.next m r w):=⟨λB x h=>by
  grind [bN],λb o h=>by
  have h:a.ro b=some o:=h;by_cases hc:b<w.heap.size/\¬ gvn σ m b;· refine(L b hc).trans ?_;rcases X.rog b o h with q|q|⟨V,o0,x0,k1,k2,k3,k4⟩;exact q;all_goals grind
  exact(Q b hc).trans h⟩
 have d2:∀ B o x,(∀y∈m,y.2≠B)->A.t.get B=some o->o.here=true->σ B=some x->x.1<w.heap.size/\¬ gvn σ m x.1:=λB o x a6 h H s=>⟨R.lt B x s,λ⟨y,hy,z,hz,e⟩=>by obtain⟨o',c4,c2⟩:=b5 y hy;exact R.inj y.2 B o' o z x c4 h c2 H (a6 y hy) hz s e⟩
 have K:∀ B o,tA.get B=some o->o.here=true->(∃j G,back r B=some j/\A2.t.get j=some G/\RO (back r) G o/\G.here=true)∨((∀x∈m,x.2≠B)/\A.t.get B=some o/\B<A.next):=λB o h H=>by rcases d4 B o h with q|⟨S,O⟩;obtain⟨j,G,D,u,I⟩:=rl.mem q;exact .inl ⟨j,G,D,u,I,by rw[<-I.here];exact H⟩;exact .inr ⟨S,O,d6 B o O H⟩
 refine⟨sigF σ a A.next m r w,(hv.move v' d9).mono a9,⟨λB o h hh=>?_,λB1 B2 o1 G x1 x2 h1 h2 c3 c5 a6 a5 a0=>?_,λB x h=>?_,λB h=>?_,λb o h=>?_,λB o x h Y s=>?_,λB h=>?_⟩,⟨λB h=>l B h,hN,X.size,λb C hn=>U b C λe3=>?_,λB o x h Y s=>?_,λB o x h Y s=>?_,X.os,X.tape,X.output,b0.ro,λb o h=>?_,λB h=>M B h⟩⟩;rcases K B o h hh with⟨j,G,D,u,I,g4⟩|⟨D,u,I⟩;rcases R2.obj0 j G u g4 with⟨b,d,c,S,O⟩|⟨S,O⟩;exact .inl ⟨b,d,c,(J B j D).1.trans S,(I.move O).mono a9⟩;exact .inr ⟨I.nilOk.trans S,(J B j D).2.2 O⟩;rcases R.obj0 B o u hh with⟨b,d,c,S,O⟩|⟨S,O⟩;refine .inl ⟨b,d,c,(l B I).trans S,?_⟩;have:=d2 B o _ D u hh S;rw[U b this.1 this.2];exact O.mono b0;exact .inr ⟨S,(M B I).2 O⟩;rcases K B1 o1 h1 (AObj.here_of_own c3)with⟨j1,p1,a1,a2,a3,a4⟩|⟨a1,a2,a3⟩;rw[(J B1 j1 a1).1]at a5;rcases K B2 G h2 c5 with⟨j2,p2,b1,b2,b3,b4⟩|⟨b1,b2,b3⟩;rw[(J B2 j2 b1).1]at a0;exact R2.inj j1 j2 p1 p2 x1 x2 a2 b2 (by rw[<-a3.own];exact c3) b4 (λe=>by subst e;exact a6 (dt a7 a1 b1)) a5 a0;grind;rw[l B1 a3]at a5;rcases K B2 G h2 c5 with⟨j2,p2,b1,b2,b3,b4⟩|⟨b1,b2,b3⟩;grind [AObj.here_of_own];rw[l B2 b3]at a0;exact R.inj B1 B2 o1 G x1 x2 a2 b2 c3 c5 a6 a5 a0;by_cases Z:B<A.next
 rw[l B Z]at h;exact It (R.lt B x h) X.size;rw[c1 B Z]at h;cases C:back r B with
 |none=>rw[C]at h;cases h
 |some j=>rw[C]at h;exact R2.lt j x h
 have h:nx<=B:=h;rw[c1 B (by omega)];cases C:back r B with
 |none=>rfl
 |some j=>exact absurd (cx a7 (ba C)) (by omega)
 by_cases C:b<w.heap.size/\¬ gvn σ m b;rw[L b C]at h;rw[U b C.1 C.2];exact R.ro b o h;rw[Q b C]at h;exact R2.ro b o h;rcases K B o h (AObj.here_of_own Y)with⟨j,G,D,u,I,g4⟩|⟨D,u,I⟩;rw[(J B j D).1]at s;rw[Q _ (c0 j G x u g4 s)];exact R2.sep j G x u (by rw[<-I.own];exact Y) s;rw[l B I]at s;rw[L _ (d2 B o x D u (AObj.here_of_own Y) s)];exact R.sep B o x u Y s;by_cases Z:B<A.next
 have:=R.nl B ((M B Z).1 h);grind;obtain⟨j,h1,h2⟩:=(c6 B Z).1 h;exact⟨cx a7 (ba h1),(J B j h1).1.trans (R2.nl j h2).2⟩;grind;· rcases K B o h (AObj.here_of_own Y)with⟨j,G,D,u,I,g4⟩|⟨D,u,I⟩;all_goals grind
 rcases K B o h Y with⟨j,G,D,u,I,g4⟩|⟨D,u,I⟩;rw[(J B j D).1]at s;rcases IP x.1 w.heap.size with q|q;obtain⟨V,o0,x0,k1,k2,k3,k4⟩:=d3 (IL λhn=>c0 j G x u g4 s ⟨q,hn⟩);grind [AObj.here_of_own];exact .inl q;grind;grind
def EndF(E:Env)(a:AH)(v:Value)(N:AH):KV:=λv2 A2=>∃ F2 F1,T.set FU .leaf 0 v2=some F2/\F1.get 0=some v/\Turns E a 1 F2 A2 F1 N
def WalkF(E:Env)(fn:Func)(args:Lh)(A1:AH)(v:Value)(N:AH):Prop:=
 ∃c F,fn.body=some c/\Nat.ble args.length fn.ntmps=true/\b8 args 0 .leaf=some F/\W E A1 fn.ntmps c (Fin E fn (EndF E A1 v N)) F A1
def endF(E:Env)(A1:AH)(ns:List (NPos×TypeId×Nat))(zs:List NPos)(ws:Lg)(Q:Value->AH->Prop):KV:=λv2 A2=>match T.set FU .leaf 0 v2 with
 |some F2=>eX A1.next E ns zs ws [0] F2 A2 (λF1 N=>match F1.get 0 with|some v=>Q v N|none=>False)
 |none=>False
theorem qj(i:E.Ok)(a:GlOk E){ns:List (NPos×TypeId×Nat)}{zs:List NPos}(h:endF E A1 ns zs ws (λv1 f=>v1=v/\f=N) v2 A2):EndF E A1 v N v2 A2:=by unfold endF at h;split at h;rename_i q b;obtain⟨r,f,k,l⟩:=cQ i a (n:=1) h;split at k;rename_i v1 j;obtain⟨rfl,rfl⟩:=k;exact⟨q,r,b,j,l⟩;exact k.elim;exact h.elim
def aN(X:SX)(d:Nat)(fn:Func)(args:Lh)(A1:AH)(K:KV):Prop:=match fn.body with
 | some c=>(match b8 args 0 .leaf with
   |some F=>bif Nat.ble args.length fn.ntmps then sxC X (inlN X d) A1 fn.ntmps c F A1 (finK X.E fn.results.toList K)else False
   |none=>False)
 |none=>False
theorem aC(b:X.Ok){ns:List (NPos×TypeId×Nat)}{zs:List NPos}(h:aN X d fn args A1 (endF X.E A1 ns zs ws (λv1 s=>v1=v/\s=N))):WalkF X.E fn args A1 v N:=by unfold aN at h;split at h;rename_i c l;split at h;rename_i F r;cases a:Nat.ble args.length fn.ntmps;rw[a]at h;exact h.elim;rw[a]at h;refine⟨c,F,l,a,r,(ik b (d:=d) h).mono λt u x q=>?_⟩;obtain⟨j,v2,i,f⟩:=eG q;exact⟨j,v2,i,qj b.ok b.gl f⟩;exact h.elim;exact h.elim
theorem CallAt.tell{f:FuncId}(h:CallAt E f args A1 v2 A2)(D:EndF E A1 v N v2 A2):CallAt E f args A1 v N:=by
 intro σ w a R z G;refine(h σ w a R z G).mono λM w' r=>?_;obtain⟨v',b,rfl,H,L,X⟩:=r;obtain⟨O,Q,x,y,C⟩:=D;have q:Glob E b:=Glob.sub (σ:=σ) (λg I h=>z g I h) (ExtG.sub R X);have i:=H6 x;obtain⟨l,s,K,_,J⟩:=C _ w ⟨#[v'],[]⟩ w' ⟨b,⟨rfl,λt u j=>by unfold slot at j;rw[i]at j;by_cases e:t=0;simp_all;rw[Hm e]at j;simp[T.get]at j,rfl⟩,L,q,X⟩
 exact⟨v',l,rfl,s.val 0 v y,K,J⟩
theorem WalkF.call(I:E.Ok){f:FuncId}(x:E.fn f=some fn)(J:WalkF E fn args A1 v N):CallAt E f args A1 v N:=by
 intro σ w D R G M;obtain⟨H,F,b,l,a,O⟩:=J;refine(lz I x b a (IF l) O R G (Ext.refl _ _ _) M).mono λZ w' L=>?_;obtain⟨v2,v',A2,i,rfl,⟨F2,F1,z,C,K⟩,Q,Y,X⟩:=L;have s:Glob E i:=Glob.sub (σ:=σ) (λg S h=>G g S h) (ExtG.sub R X);have j:=H6 z;obtain⟨r,y,V,_,U⟩:=K _ w ⟨#[v'],[]⟩ w' ⟨i,⟨rfl,λt u q=>by unfold slot at q;rw[j]at q;by_cases e:t=0;simp_all;rw[Hm e]at q;simp[T.get]at q,rfl⟩,Y,s,X⟩
 exact⟨v',r,rfl,y.val 0 v C,V,U⟩
theorem oO{f:FuncId}{a:Lh}{j:Ld}{G lo:List (Nat×AObj)}{C:Value}
 (H:bq k m=true) (V:∀ i,i<k->∃ B,back m i=some B) (I:ofL G .leaf=some t1) (D:RenH m A G) (L:RVs (back m) args a) (l:∀ x∈m,∃o,A.t.get x.2=some o/\o.own=true)
 (S:CallAt E f a ⟨t1,k⟩ C N)
 (u:bq nx j=true) (hN:A.next<=nx) (y:∀ i B,i<k->back m i=some B->back j B=some i) (s:∀ x∈j,x.2<k∨A.next<=x.1) (K:RenH j N lo) (U:RV (back j) C v)
 (r:∀ B o,tA.get B=some o->(B,o)∈lo∨((∀x∈m,x.2≠B)/\A.t.get B=some o)):CallAt E f args A v ⟨tA,nx⟩:=by intro σ w b R Y ha;have R1:=R.ren H I D;refine(S _ w b R1 (λg cs h=>Y g cs h) (L.move ha)).mono λen w' Z=>?_;obtain⟨v',J,rfl,z,R3,X3⟩:=Z;obtain⟨q,Q,O,M⟩:=tY R H V I D l R3 X3 z u hN y s K U r;exact⟨v',q,rfl,Q,O,M⟩
def kM(ar:TypeId->Lk)(m:Ld)(o:AObj):Option (Lh×AObj):=
 match o with
 | .cells c e=>(match ar e with
   |some n=>bif Nat.ble n c.length then(match renL (renV m 8) (c.drop n)with|some r=>some (.agg ⟨c.take n⟩::r.1,.arr (c.take n) r.2 n e)|none=>none)else none
   |none=>renO m (.cells c e))
 | .gro els tl e=>some ([.agg ⟨glue els tl⟩],.gro (glue els tl) [] e)
 | .map es k=>some ([.agg ⟨es.map λx=>x.2.1⟩],.map es k)
 |o=>renO m o
theorem jd{r:Lh×AObj}(h:kM ar m o=some r)(b:∀ x∈r.1,HF x):RO (back m) o r.2:=by unfold kM at h;split at h;rename_i c e;split at h;rename_i n l;cases f:Nat.ble n c.length;rw[f]at h;cases h;rw[f]at h;simp only[C']at h;split at h;rename_i j i;cases h;rw[HA]at f;have:=RO.toArr (ρ:=back m) (els:=c.take n) (rest:=c.drop n) (n:=n) (e:=e) (by rw[Ic];omega) (λx a=>lQ (b _ (by simp)) x a) (cS (cm 8) i λx a=>b x (by simp[a]));simp_all;cases h;exact ma h b;all_goals grind [pp,renW,ma]
def Dq(ar:TypeId->Lk)(m:Ld)(A:AH)(l:Ld):Option (Lh×List (Nat×AObj)):=
 List.rec (motive:=λ_=>Option (Lh×List (Nat×AObj))) (some ([],[])) (λx _ ih=>match A.t.get x.2 with
  | some o=>bif o.own then(match kM ar m o with
    |some r=>(match ih with|some s=>some (r.1++s.1,(x.1,r.2)::s.2)|none=>none)
    |none=>none)else none
  |none=>none) l
theorem re{ar:TypeId->Lk}{m:Ld}{A:AH}:∀ {l:Ld}{r},Dq ar m A l=some r->(∀x∈l,back m x.1=some x.2)->(∀x∈r.1,HF x)->RenH m A r.2/\(∀x∈l,∃o,A.t.get x.2=some o/\o.own=true)/\r.2.map (·.1)=l.map (·.1)
 | [],r,h,_,_=>by have h:some ([],[])=some r:=h;cases h;exact⟨.nil,λx a=>by simp at a,rfl⟩
 | t ::l,r,h,hb,hh=>by
  have h:(match A.t.get t.2 with
   | some o=>bif o.own then(match kM ar m o with
     |some r=>(match Dq ar m A l with|some s=>some (r.1++s.1,(t.1,r.2)::s.2)|none=>none)
     |none=>none)else none
   |none=>none)=some r:=h
  split at h;rename_i v j;cases b:v.own;rw[b]at h;cases h;rw[b]at h;simp only[C']at h;split at h;rename_i y u;split at h;rename_i s q;cases h;obtain⟨i,z,f⟩:=re q (λx a=>hb x (by simp[a])) λx a=>hh x (by simp[a]);refine⟨.cons (hb t (by simp)) j (jd u λx a=>hh x (by simp[a])) i,λx a=>?_,by simp[f]⟩;grind;cases h;cases h;cases h
def Dr(ar:TypeId->Lk)(m:Ld)(A:AH)(l:Ld):Option (Lh×List (Nat×AObj)):=
 List.rec (motive:=λ_=>Option (Lh×List (Nat×AObj))) (some ([],[])) (λx _ ih=>match A.t.get x.2 with
  | some o=>bif o.own|| !o.here then(match kM ar m o with
    |some r=>(match ih with|some s=>some (r.1++s.1,(x.1,r.2)::s.2)|none=>none)
    |none=>none)else none
  |none=>none) l
theorem rg{ar:TypeId->Lk}{m:Ld}{A:AH}:∀ {l:Ld}{r},Dr ar m A l=some r->(∀x∈l,back m x.1=some x.2)->(∀x∈r.1,HF x)->RenH m A r.2/\r.2.map (·.1)=l.map (·.1)
 | [],r,h,_,_=>by have h:some ([],[])=some r:=h;cases h;exact⟨.nil,rfl⟩
 | t ::l,r,h,hb,hh=>by
  have h:(match A.t.get t.2 with
   | some o=>bif o.own|| !o.here then(match kM ar m o with
     |some r=>(match Dr ar m A l with|some s=>some (r.1++s.1,(t.1,r.2)::s.2)|none=>none)
     |none=>none)else none
   |none=>none)=some r:=h
  split at h;rename_i v j;cases b:(v.own|| !v.here)with
  |false=>rw[b]at h;cases h
  |true=>rw[b]at h;simp only[C']at h;split at h;rename_i y u;split at h;rename_i s q;cases h;obtain⟨i,f⟩:=rg q (λx a=>hb x (by simp[a])) λx a=>hh x (by simp[a]);exact⟨.cons (hb t (by simp)) j (jd u λx a=>hh x (by simp[a])) i,by simp[f]⟩;cases h;cases h
  cases h
def outM(m:Ld)(nx:Nat)(k:Nat):Nat->Ld:=
 Nat.rec (motive:=λ_=>Ld) (m.map λx=>(x.2,x.1)) (λj ih=>(nx+j,k+j)::ih)
def setAll:List (Nat×AObj)->T AObj->Option (T AObj)
 | [],t=>some t
 |x::l,t=>match T.set FU t x.1 x.2 with|some t'=>setAll l t'|none=>none
theorem io:∀ {l:List (Nat×AObj)}{t a:T AObj},setAll l t=some a->∀ {B:Nat}{o:AObj},a.get B=some o->(B,o)∈l∨((∀x∈l,x.1≠B)/\t.get B=some o)
 | [],t,a,h,B,o,hx=>by grind [setAll,osI]
 |y::l,t,a,h,B,o,hx=>by simp only[setAll]at h;split at h;rename_i t1 f;rcases io h hx with b|⟨i,b⟩;exact .inl (by simp[b]);rw[H6 f]at b;grind;cases h
def wG(k:Nat)(l:List AObj):List (Nat×AObj):=List.rec (motive:=λ_=>Nat->List (Nat×AObj)) (λ_=>[]) (λo _ ih i=>(i,o)::ih (i+1)) l k
def aQ(l:List AObj):AH:=match ofL (wG 0 l) .leaf with|some t=>⟨t,l.length⟩|none=>⟨.leaf,l.length⟩
def frmR (ar:TypeId->Lk)(spec:Lh->List AObj->Option (Ll×Value×List AObj)):RunF:=λargs A=>
 match numb (th [] A 64 (kI (blks 8) args) []) 0 with
 | m => (match renL (renV m 8) args,Dq ar m A m with
   | some ra,some hs=>(match spec ra.2 (hs.2.map (·.2))with
     | some r=>bif ((bq (lenM m) m&&baks m)&&(ofL hs.2 .leaf).isSome)&&Nat.ble (lenM m) r.2.2.length then
      (match outM m A.next (lenM m) (r.2.2.length-lenM m)with
      | m2 =>(match renV m2 8 r.2.1,Dr (λ_=>none) m2 (aQ r.2.2) m2 with
        | some rv,some ho=>bif bq (A.next+(r.2.2.length-lenM m)) m2&&baks m2 then(match setAll ho.2 A.t with
          |some tA=>some (some (HFs (ra.1++(hs.1++(rv.1++ho.1))) (PH r.1)),rv.2,⟨tA,A.next+(r.2.2.length-lenM m)⟩)
          |none=>none)else none
        |_,_=>none))else none
     |none=>none)
   |_,_=>none)
theorem mq:∀ (l:Lg) (i:Nat),(numb l i).map (·.1)=List.range' i l.length
 | [],i=>rfl
 |B::l,i=>by show i::(numb l (i+1)).map (·.1)=_;rw[mq l (i+1)];rfl
theorem mH:∀ (l:List (Nat×AObj)) (i:Nat),l.map (·.1)=List.range' i l.length->wG i (l.map (·.2))=l
 | [],i,_=>rfl
 |x::l,i,h=>by simp only[Ia,HW,JJ,Ju]at h;show(i,x.2)::wG (i+1) (l.map (·.2))=_;rw[mH l (i+1) h.2,<-h.1]
theorem pJ:∀ m:Ld,lenM m=m.length
 | []=>rfl
 |x::m=>by show lenM m+1=_;rw[pJ m];rfl
theorem mem_outM{m:Ld}{nx k:Nat}:∀ {n:Nat}{x:Nat×Nat},x∈outM m nx k n↔(∃y∈m,x=(y.2,y.1))∨∃ j,j<n/\x=(nx+j,k+j)
 |0,x=>by show x∈m.map (λy=>(y.2,y.1))↔_;grind
 |n+1,x=>by show x∈(nx+n,k+n)::outM m nx k n↔_;rw[HE,mem_outM];grind
theorem np(h:baks m=true):∀ x∈m,back m x.1=some x.2:=λx a=>by have:=HV.1 h x a;grind [bak,Ho]
theorem wW{f:FuncId}{z:Lh->List AObj->Option (Ll×Value×List AObj)}
 (h:∀ args C p v b,z args C=some (p,v,b)->PH p->CallAt E f args (aQ C) v (aQ b)):∀ args A p v A',frmR ar z args A=some (p,v,A')->PH p->CallAt E f args A v A':=by
 intro args A p v A' a hp;unfold frmR at a;simp only at a;generalize a7:th [] A 64 (kI (blks 8) args) []=bs at a;have s:=mq bs 0;generalize a4:numb bs 0=m at a s;rw[pJ]at a;have a0:m.length=bs.length:=by have:=Il List.length s;simpa using this
 split at a;rename_i ra D Y a1;split at a;rename_i r U;cases Q:((bq m.length m&&baks m)&&(ofL D.2 .leaf).isSome)&&Nat.ble m.length r.2.2.length;rw[Q]at a;cases a;rw[Q]at a;simp only[C']at a;simp only[f',HA,JU]at Q;obtain⟨⟨⟨O,a3⟩,t1,I⟩,a5⟩:=Q;generalize K:outM m A.next m.length (r.2.2.length-m.length)=m2 at a
 split at a;rename_i rv ho V a2;cases t:bq (A.next+(r.2.2.length-m.length)) m2&&baks m2;rw[t]at a;cases a;rw[t]at a;simp only[C']at a;rw[f']at t;split at a;rename_i tA S;cases a;obtain⟨u,Z⟩:=gB hp;have b1:=np a3;have b2:=np t.2;obtain⟨rh,J,M⟩:=re a1 b1 λx l=>u x (by simp[l]);obtain⟨rl,a6⟩:=rg a2 b2 λx l=>u x (by simp[l]);have L:D.2.length=m.length:=by have:=Il List.length M;simpa using this
 have e1:wG 0 (D.2.map (·.2))=D.2:=mH _ 0 (by rw[M,s,L,a0]);have H:=h ra.2 (D.2.map (·.2)) r.1 r.2.1 r.2.2 U Z;have e2:aQ (D.2.map (·.2))=⟨t1,m.length⟩:=by unfold aQ;rw[e1,I];simp[L]
 rw[e2]at H;have G:∀ y∈m,(y.2,y.1)∈m2:=λy R=>by rw[<-K];exact mem_outM.2 (.inl ⟨y,R,rfl⟩)
 refine oO O (λi hi=>?_) I rh (cS (cm 8) Y λx l=>u x (by simp[l])) J H t.1 (IT _ _) (λi B hi hB=>b2 _ (G _ (ba hB))) (λx l=>?_) rl (cm 8 _ _ V λx l=>u x (by simp[l])) (λB o hB=>?_);have:i∈m.map (·.1):=by grind
 grind;rw[<-K]at l;rcases mem_outM.1 l with⟨y,R,rfl⟩|⟨j,hj,rfl⟩;exact .inl (cx O (B':=y.1) (B:=y.2) R);exact .inr (IT _ _);rcases io S hB with q|⟨q1,q2⟩;exact .inl q;refine .inr ⟨λx l e=>?_,q2⟩;have:x.2∈ho.2.map (·.1):=by grind
 grind;cases a;cases a;cases a;cases a
theorem aS(l:E.Ok){f:FuncId}(j:E.fn f=some fn){i:Lh->List AObj->Option (Ll×Value×List AObj)}
 (h:∀ args b p v a,i args b=some (p,v,a)->PH p->WalkF E fn args (aQ b) v (aQ a)):∀ args A p v A',frmR ar i args A=some (p,v,A')->PH p->CallAt E f args A v A':=
 wW λargs b p v a r q=>(h args b p v a r q).call l j
theorem _root_.Go.HT:type_of% @List.mem_cons_self:=@List.mem_cons_self
def fU(v:Value):Prop:=v.cells.toList=[v]
theorem fP:∀ {els:Lh},(∀x∈els,fU x)->ap els=els
 | [],_=>rfl
 |x::l,h=>by rw[aU,fP (λy a=>h y (HO _ a)),h x HT];rfl
inductive ROX (ρ:Nat->Lk):AObj->AObj->Prop
 |of {o o1:AObj}(h:RO ρ o o1):ROX ρ o o1
 |row {els tl els1:Lh}{e:TypeId}(h1:∀ x∈els++tl,fU x) (h2:∀ x∈els1,fU x) (h:RVs ρ (els++tl) els1):ROX ρ (.gro els tl e) (.gro els1 [] e)
 |shr {els tl:Lh}{e:TypeId}(k:Nat) (h:∀ x∈ap (els++tl),HF x):ROX ρ (.gro els tl e) (.gro ((els++tl).take k) [] e)
theorem ROX.own(h:ROX ρ o o1):o1.own=o.own:=by
 cases h with
 |of h=>exact h.own
 |row=>rfl
 |shr=>rfl
theorem ROX.nilOk(h:ROX ρ o o1):o1.nilOk=o.nilOk:=by
 cases h with
 |of h=>exact h.nilOk
 |row=>rfl
 |shr=>rfl
theorem ROX.here(h:ROX ρ o o1):o1.here=o.here:=by
 cases h with
 |of h=>exact h.here
 |row=>rfl
 |shr=>rfl
theorem RVs.len:∀ {l a:Lh},RVs ρ l a->a.length=l.length
 |_,_,.nil=>rfl
 |_,_,.cons _ t=>by simp[t.len]
theorem ROX.move{ob:Option Obj}{cp:Nat}(h:ROX ρ o o1)(q:OR P σ ob d cp o):OR P (sigT ρ σ) ob d cp o1:=by
 cases h with
 |of h=>exact h.move q
 |shr k h=>obtain⟨C,f,r,z,u,t,J,s,I⟩:=q;refine⟨C,f,r,z,u,λi v b=>?_,λx j=>?_,s,?_⟩;rw[Hu,<-cb k J,Io]at b;split at b;obtain⟨v',M,L⟩:=t i v b;exact⟨v',M,HF.move (σ:=σ) (σ':=sigT ρ σ) (λ_ _ h=>h) (h v (HR b)) v' L⟩;cases b;all_goals grind
 |row H G h=>
 obtain⟨C,f,r,z,u,t,J,s,I⟩:=q;refine⟨C,f,r,z,u,λi v1 a=>?_,λx j=>?_,s,?_⟩;rw[Hu,fP G]at a;obtain⟨v,k1,R⟩:=h.get a;obtain⟨v',Q,O⟩:=t i v (by rw[fP H];exact k1);exact⟨v',Q,R.move _ O⟩;rw[Hu]at j;have U:x.cells.size=1:=by have:=Il List.length (G x j);simpa using this
 rename_i els tl K e;cases D:els++tl with
 |nil=>rw[D]at h;have:=h.len;grind
 | cons y l=>
  have S:y∈els++tl:=by rw[D];exact HT
  have:=Il List.length (H y S);grind
 rw[Hu,h.len];exact I
def sigX(ρ:Nat->Lk)(a:Nat->Prop)(σ:Sig):Sig:=⟨λB=>(ρ B).bind σ.f,σ.ro,λB'=>(∃B,ρ B'=some B/\σ.nl B)∨a B'⟩
theorem CW(h:VR (sigT ρ σ) v v'):VR (sigX ρ NL σ) v v':=VR.mono (σ:=sigT ρ σ) (σ':=sigX ρ NL σ) ⟨λ_ _ h=>h,λ_ _ h=>h⟩ h
theorem CX{ob:Option Obj}{c:Nat}(h:OR P (sigT ρ σ) ob d c o):OR P (sigX ρ NL σ) ob d c o:=OR.mono (σ:=sigT ρ σ) (σ':=sigX ρ NL σ) ⟨λ_ _ h=>h,λ_ _ h=>h⟩ h
theorem Turns.rhoX{F1:T Value}(a5:GlOk E)(ρ:Nat->Lk)(NL:Nat->Prop)(z:∀ B,NL B->ρ B=none/\B<nx)
 (y:∀ B,B<A0.next->ρ B=some B) (L:A0.next<=nx) (M:∀ B' B,ρ B'=some B->B'<nx) (Z:∀ H B2 B o1 o2,t1.get H=some o1->o1.own=true->t1.get B2=some o2->o2.here=true->ρ H=some B->ρ B2=some B->H=B2)
 (S:∀ (t:Nat) (v1:Value),F1.get t=some v1->∃ v,F.get t=some v/\RV ρ v v1)
 (Q:∀ (B':Nat) (o1:AObj),t1.get B'=some o1->(∃B o,ρ B'=some B/\A.t.get B=some o/\ROX ρ o o1)∨(NL B'/\o1.nilOk=true)):Turns E A0 n F A F1 ⟨t1,nx⟩:=by
 intro I w0 a w ⟨σ,U,R,hg,X⟩;have hx:∀ {B' x},(sigX ρ NL σ) B'=some x->∃ B,ρ B'=some B/\σ B=some x:=λh=>bN (ρ:=ρ) (σ:=σ) h;have C:∀ {B' o1 x},t1.get B'=some o1->(sigX ρ NL σ) B'=some x->∃ B o,ρ B'=some B/\A.t.get B=some o/\ROX ρ o o1/\σ B=some x:=fun {B' o1 x} h hs=>by grind
 refine⟨sigX ρ NL σ,⟨U.size,λt u hu=>?_,U.defers⟩,⟨?_,?_,?_,?_,?_,?_,λB' h=>?_⟩,(λg cs h=>hg g cs h),⟨?_,?_,X.size,X.frame,?_,?_,X.os,X.tape,X.output,X.sro,X.rog,λB D=>?_⟩⟩;obtain⟨v,l,i⟩:=S _ _ hu;exact CW (i.move _ (U.val t v l));intro B' o1 h s;rcases Q _ _ h with⟨B,o,l,i,q⟩|⟨l,i⟩;rcases R.obj0 B o i (by rw[<-q.here];exact s)with⟨b,d,c,Y,V⟩|⟨Y,V⟩;exact .inl ⟨b,d,c,dw l Y,CX (q.move V)⟩;exact .inr ⟨q.nilOk.trans Y,.inl ⟨B,l,V⟩⟩;exact .inr ⟨i,.inr l⟩;intro H B2 o1 o2 x1 x2 l i r O a0 K J;obtain⟨C1,p1,a1,a2,a3,a4⟩:=C l K;obtain⟨C2,p2,b1,b2,b3,b4⟩:=C i J;exact R.inj C1 C2 p1 p2 x1 x2 a2 b2 (by rw[<-a3.own];exact r) (by rw[<-b3.here];exact O) (λe=>by grind) a4 b4;intro B' x j;obtain⟨B,_,i⟩:=hx j;exact R.lt B x i;intro B' a6;show(ρ B').bind σ.f=none;cases hb:ρ B' with
 |none=>rfl
 |some B=>grind
 exact R.ro;intro B' o1 x h r j;obtain⟨B,o,l,i,q,G⟩:=C h j;exact R.sep B o x i (by rw[<-q.own];exact r) G;rcases h with⟨B,l,i⟩|h;refine⟨M _ _ l,?_⟩;show(ρ B').bind σ.f=none;rw[l];exact(R.nl B i).2;refine⟨(z _ h).2,?_⟩;show(ρ B').bind σ.f=none;rw[(z _ h).1];rfl;intro B D;show(ρ B).bind σ.f=I.f B;rw[y B D];exact X.sig B D;exact L;intro B' o1 x h r j;obtain⟨B,o,l,i,q,G⟩:=C h j;exact X.orig B o x i (by rw[<-q.own];exact r) G;intro B' o1 x h r j;obtain⟨B,o,l,i,q,G⟩:=C h j;exact X.orig2 B o x i (by rw[<-q.here];exact r) G;· refine Iff.trans ⟨λh=>?_,λh=>.inl ⟨B,y B D,h⟩⟩ (X.snl B D);rcases h with⟨B',l,i⟩|h;all_goals grind
def rhoX(m:Ld)(ρf:Nat->Lk)(B:Nat):Lk:=match back m B with
 |some x=>some x
 |none=>ρf B
theorem rhoX_m{B':Nat}(h:back m B'=some B):rhoX m ρf B'=some B:=by unfold rhoX;rw[h]
theorem RV.up(b:∀ B' B,ρ B'=some B->ρ' B'=some B){a:Value}(h:RV ρ v a):RV ρ' v a:=
 RV.rec (motive_1:=λv a _=>RV ρ' v a) (motive_2:=λl f _=>RVs ρ' l f) (λh=>.hf h) (λh=>.ptr (b _ _ h)) (λh=>.slice (b _ _ h)) RV.sliceE (λq=>.nilG q) (λh=>.map (b _ _ h)) (λr _ _ j i=>.func r j i) (λ_ h=>.iface h) (λ_ h=>.agg h) (λ_ h=>.tuple h) RVs.nil (λ_ _ h t=>.cons h t) h
theorem RVs.up(b:∀ B' B,ρ B'=some B->ρ' B'=some B):∀ {l a:Lh},RVs ρ l a->RVs ρ' l a
 |_,_,.nil=>.nil
 |_,_,.cons h t=>.cons (h.up b) (t.up b)
theorem REs.up(b:∀ B' B,ρ B'=some B->ρ' B'=some B):∀ {l a:Lc},REs ρ l a->REs ρ' l a
 |_,_,.nil=>.nil
 |_,_,.cons h t=>.cons (h.up b) (t.up b)
theorem RO.up(a:∀ B' B,ρ B'=some B->ρ' B'=some B)(h:RO ρ o o1):RO ρ' o o1:=by
 cases h with
 |cells h=>exact .cells (h.up a)
 |ro h=>exact .ro (h.up a)
 |map h=>exact .map (h.up a)
 |gro h=>exact .gro h
 |arr h k=>exact .arr h (k.up a)
 |toArr b h k=>exact .toArr b h (k.up a)
 |dead=>exact .dead
def DH:List (Nat×AObj)->Nat->Option AObj
 | [],_=>none
 |x::l,B=>bif Nat.beq B x.1 then some x.2 else DH l B
def kU (ws:Lg)(ov:List (Nat×AObj))(ρ:Nat->Lk)(m:Ld)(A:AH)(l:Ld):Option (Lh×Prop×List (Nat×AObj)):=
 List.rec (motive:=λ_=>Option (Lh×Prop×List (Nat×AObj))) (some ([],True,[])) (λx _ ih=>match A.t.get x.2 with
  | some o=>(match DH ov x.1 with
    |some o1=>(match ih with|some s=>some (s.1,ROX ρ o o1/\s.2.1,(x.1,o1)::s.2.2)|none=>none)
    | none=>(match(bif isWh ws o then renW o else renO m o)with
      |some r=>(match ih with|some s=>some (r.1++s.1,s.2.1,(x.1,r.2)::s.2.2)|none=>none)
      |none=>none))
  |none=>none) l
theorem jF{ws:Lg}{ov:List (Nat×AObj)}{ρ:Nat->Lk}{m:Ld}{A:AH}(i:∀ B' B,back m B'=some B->ρ B'=some B):∀ {l:Ld}{r},kU ws ov ρ m A l=some r->(∀x∈l,back m x.1=some x.2)->(∀x∈r.1,HF x)->r.2.1->∀ B' o1,(B',o1)∈r.2.2->∃ B o,ρ B'=some B/\A.t.get B=some o/\ROX ρ o o1
 | [],r,h,_,_,_=>by have h:some ([],True,[])=some r:=h;grind
 | t :: l,r,h,hb,hh,hp=>by
  have h:(match A.t.get t.2 with
   | some o=>(match DH ov t.1 with
     |some o1=>(match kU ws ov ρ m A l with|some s=>some (s.1,ROX ρ o o1/\s.2.1,(t.1,o1)::s.2.2)|none=>none)
     | none=>(match(bif isWh ws o then renW o else renO m o)with
       |some r=>(match kU ws ov ρ m A l with|some s=>some (r.1++s.1,s.2.1,(t.1,r.2)::s.2.2)|none=>none)
       |none=>none))
   |none=>none)=some r:=h
  have f:=i _ _ (hb t (by simp));split at h;rename_i v u;split at h;rename_i o1 z;split at h;rename_i s a;cases h;intro B' j q;rcases HE.1 q with e|e;cases e;exact⟨_,_,f,u,hp.1⟩;exact jF i a (λx b=>hb x (by simp[b])) hh hp.2 B' j e;cases h;split at h;rename_i y D;split at h;rename_i s a;cases h;have C:RO (back m) v y.2:=by grind [isWh,pp,ma]
  intro B' j q;rcases HE.1 q with e|e;cases e;exact⟨_,_,f,u,.of (C.up i)⟩;exact jF i a (λx b=>hb x (by simp[b])) (λx b=>hh x (by simp[b])) hp B' j e;cases h;cases h;cases h
def iO(l:List (Li×(Nat->Option AObj)))(t:T AObj):Option (T AObj):=
 List.rec (motive:=λ_=>Option (T AObj)) (some t) (λx _ ih=>match ih with|some t1=>T.setFn x.1 t1 x.2|none=>none) l
def FamOk(ρ:Nat->Lk)(a:Nat->Prop)(A:AH)(p:Li)(g:Nat->Option AObj):Prop:=∀ i o1,g i=some o1->(∃B o,ρ (T.numF p i)=some B/\A.t.get B=some o/\ROX ρ o o1)∨(a (T.numF p i)/\o1.nilOk=true)
def sh(ρ:Nat->Lk)(a:Nat->Prop)(A:AH)(l:List (Li×(Nat->Option AObj))):Prop:=List.rec (motive:=λ_=>Prop) True (λx _ ih=>FamOk ρ a A x.1 x.2/\ih) l
theorem nI{ρ:Nat->Lk}{NL:Nat->Prop}{A:AH}:∀ {l:List (Li×(Nat->Option AObj))}{t t1:T AObj},iO l t=some t1->sh ρ NL A l->∀ B' o1,t1.get B'=some o1->((∃B o,ρ B'=some B/\A.t.get B=some o/\ROX ρ o o1)∨(NL B'/\o1.nilOk=true))∨t.get B'=some o1
 | [],t,t1,h,_,B',o1,ho=>by have h:some t=some t1:=h;cases h;exact .inr ho
 |x::l,t,t1,h,hf,B',o1,ho=>by have h:(match iO l t with|some a=>T.setFn x.1 a x.2|none=>none)=some t1:=h;split at h;rename_i a f;by_cases b:T.InF x.1 B';obtain⟨i,rfl⟩:=b;rw[JK h]at ho;exact .inl (hf.1 i o1 ho);rw[JB h B' b]at ho;exact nI f hf.2 B' o1 ho;cases h
structure RhoOk (m:Ld) (ρf:Nat->Lk) (NL Lv:Nat->Prop) (nx:Nat):Prop where
 nl:∀ B,NL B->ρf B=none/\back m B=none/\B<nx
 lt:∀ B' B,ρf B'=some B->B'<nx
 inj:∀ B1 B2 B,Lv B1->Lv B2->ρf B1=some B->ρf B2=some B->B1=B2
 sep:∀ x∈m,∀B',Lv B'->ρf B'≠some x.2
theorem yF(r:bq nx m=true){l:Nat->Prop}(h:RhoOk m ρf NL l nx){i:Nat}(q:l i)(l2:l B2)(b:rhoX m ρf i=some B)(a:rhoX m ρf B2=some B):i=B2:=by
 unfold rhoX at b a;cases j:back m i with
 | some x=>
  rw[j]at b;cases b;cases f:back m B2 with
  |some y=>grind [dt]
  |none=>rw[f]at a;exact absurd a (h.sep _ (ba j) _ l2)
 |none=>
 rw[j]at b;cases f:back m B2 with
 |some y=>rw[f]at a;cases a;exact absurd b (h.sep _ (ba f) _ q)
 |none=>rw[f]at a;exact h.inj _ _ _ q l2 b a
def yq (k :Nat)(ws:Lg)(ov:List (Nat×AObj))(m:Ld)(slots:Lg)(nx:Nat)(fm:List (Li×(Nat->Option AObj)))(ρf:Nat->Lk)(NL:Nat->Prop)(F:T Value)(A:AH)(K:KF):Prop:=
 match ta m F slots with
 | some r =>(match kU ws ov (rhoX m ρf) m A m with
   | some s=>(match ofL r.2 .leaf with
     | some F1=>(match ofL s.2.2 .leaf with
       | some t0=>(match iO fm t0 with
         |some t1=>bif (bq nx m&&baks m)&&Nat.ble k nx then HFs (r.1++s.1) ((∀B,B<k->rhoX m ρf B=some B)/\RhoOk m ρf NL (λB=>∃ o,t1.get B=some o/\o.here=true) nx/\s.2.1/\sh (rhoX m ρf) NL A fm/\K F1 ⟨t1,nx⟩)else False
         |none=>False)
       |none=>False)
     |none=>False)
   |none=>False)
 |none=>False
theorem qA(D:GlOk E){ov:List (Nat×AObj)}{slots:Lg}{fm:List (Li×(Nat->Option AObj))}{K:KF}(h:yq A0.next ws ov m slots nx fm ρf NL F A K):∃ F1 A1,K F1 A1/\Turns E A0 n F A F1 A1:=by
 unfold yq at h;split at h;rename_i r I;split at h;rename_i s hs;split at h;rename_i F1 Q;split at h;rename_i Z z;split at h
 · rename_i t1 y;cases f:(bq nx m&&baks m)&&Nat.ble A0.next nx with
   |false=>rw[f]at h;exact h.elim
   |true=>
   rw[f]at h;simp only[f',HA]at f;obtain⟨L,C,a,hp,M,k⟩:=gB h;have u:∀ q B,back m q=some B->rhoX m ρf q=some B:=λ_ _ h=>rhoX_m h;have O:∀ x∈m,back m x.1=some x.2:=λx j=>by have:=HV.1 f.1.2 x j;grind [bak,Ho]
   refine⟨F1,⟨t1,nx⟩,k,Turns.rhoX D (rhoX m ρf) NL (λB i=>⟨by unfold rhoX;rw[(a.nl B i).2.1];exact(a.nl B i).1,(a.nl B i).2.2⟩) C f.2 (λq B i=>?_) (λB1 B2 B o1 G Y V U S b l=>yF f.1.1 a ⟨o1,Y,AObj.here_of_own V⟩ ⟨G,U,S⟩ b l) (λt v1 H=>?_) (λq o1 J=>?_)⟩;unfold rhoX at i;split at i;rename_i x j;exact cx f.1.1 (ba j);exact a.lt _ _ i;rcases dD Q H with b|b;obtain⟨v,l,R⟩:=(lV I λx j=>L x (by simp[j])).mem b;exact⟨v,l,R.up u⟩;simp[T.get]at b;rcases nI y M q o1 J with b|b;exact b;· rcases dD z b with l|l;all_goals grind [jF,T.get]
 exact h.elim;exact h.elim;exact h.elim;exact h.elim;exact h.elim
structure GivenX (A:AH) (ρ:Nat->Lk) (t1:T AObj) (k1:Nat):Prop where
 at':∀ i o1,t1.get i=some o1->o1.here=true->∃ B o,ρ i=some B/\A.t.get B=some o/\ROX ρ o o1
 own:∀ i o1,t1.get i=some o1->o1.here=true->o1.own=true
 inj:∀ i j B o1 o2,t1.get i=some o1->o1.own=true->t1.get j=some o2->o2.here=true->ρ i=some B->ρ j=some B->i=j
 lt:∀ i B,ρ i=some B->i<k1
theorem GivenX.of(G:GivenX A ρ t1 k1){i:Nat}{x:Nat×Nat×Nat}(h:t1.get i=some o1)(b:o1.here=true)(a:(sigT ρ σ) i=some x):∃ B o,ρ i=some B/\A.t.get B=some o/\ROX ρ o o1/\σ B=some x:=by obtain⟨B,j,f⟩:=bN a;obtain⟨C,o,r,q,l⟩:=G.at' i o1 h b;grind
theorem Rel.renX(R:Rel P σ A w)(G:GivenX A ρ t1 k1):Rel P (sigT ρ σ) ⟨t1,k1⟩ w:=by
 refine⟨?_,?_,?_,?_,R.ro,?_,λl h=>?_⟩;intro l o1 h a;obtain⟨B,o,j,i,s⟩:=G.at' l o1 h a;rcases R.obj0 B o i (by rw[<-s.here];exact a)with⟨b,d,c,H,D⟩|⟨H,D⟩;exact .inl ⟨b,d,c,dw j H,s.move D⟩;exact .inr ⟨s.nilOk.trans H,B,j,D⟩;intro B1 B2 o1 o2 I x2 j i r q z u t;obtain⟨C1,K,Z,Y,V,U⟩:=G.of j (AObj.here_of_own r) u;obtain⟨C2,J,S,b2,Q,O⟩:=G.of i q t;exact R.inj C1 C2 K J I x2 Y b2 (by rw[<-V.own];exact r) (by rw[<-Q.here];exact q) (λe=>by subst e;exact z (G.inj _ _ _ _ _ j r i q Z S)) U O;intro l x y;obtain⟨B,_,i⟩:=bN y;exact R.lt B x i;intro l C;show(ρ l).bind σ.f=none;cases L:ρ l with
 |none=>rfl
 |some B=>exact absurd (G.lt _ _ L) (by simp at C;omega)
 intro l o1 x h r y;obtain⟨B,o,j,i,s,M⟩:=G.of h (AObj.here_of_own r) y;exact R.sep B o x i (by rw[<-s.own];exact r) M;obtain⟨B,j,i⟩:=h;refine⟨G.lt _ _ j,?_⟩;show(ρ l).bind σ.f=none;rw[j];exact(R.nl B i).2
def gvX(σ:Sig)(ρ:Nat->Lk)(a:T AObj)(b:Nat):Prop:=∃ i o1 y,a.get i=some o1/\o1.own=true/\(sigT ρ σ) i=some y/\y.1=b
open Classical in
def jP(σ σ2:Sig)(N:Nat)(ρ2:Nat->Lk)(gv:Nat->Prop)(w:World):Sig:=
 ⟨λB=>if B<N then σ.f B else(ρ2 B).bind σ2.f,λb=>if b<w.heap.size/\¬ gv b then σ.ro b else σ2.ro b,λB=>if B<N then σ.nl B else ∃j,ρ2 B=some j/\σ2.nl j⟩
theorem p5{a:Sig}{ρ2:Nat->Lk}(R:Rel P σ A w)(G:GivenX A ρ t1 k1)
 (R2:Rel P a A2 w') (X:Ext (sigT ρ σ) ⟨t1,k⟩ w a A2 w') (d2:VR a v2 v')
 (hN:A.next<=nx) (d1:∀ B i,B<A.next->ρ2 B=some i->i<k/\ρ i=some B) (b0:∀ B i,ρ2 B=some i->B<nx)
 (d0:∀ B1 B2 i o1 o2,tA.get B1=some o1->o1.own=true->tA.get B2=some o2->o2.here=true->ρ2 B1=some i->ρ2 B2=some i->B1=B2) (hv:RV ρ2 v2 v)
 (c5:∀ B o,tA.get B=some o->(∃i o2,ρ2 B=some i/\A2.t.get i=some o2/\ROX ρ2 o2 o)∨(A.t.get B=some o/\∀ i o1,t1.get i=some o1->o1.here=true->ρ i≠some B)):
 ∃σ',VR σ' v v'/\Rel P σ' ⟨tA,nx⟩ w'/\Ext σ A w σ' ⟨tA,nx⟩ w':=by
 have a0:∀ b,b<w.heap.size->¬ gvX σ ρ t1 b->w'.heap[b]? =w.heap[b]?:=λb J hn=>X.frame b J λB0 o x S K h3 e=>hn ⟨B0,o,x,S,K,h3,e⟩;have b5:∀ {b:Nat},gvX σ ρ t1 b->∃ B0 o0 x0,A.t.get B0=some o0/\o0.own=true/\σ B0=some x0/\x0.1=b:=fun {b} ⟨i,o1,y,S,K,h3,e⟩=>by obtain⟨B,o,_,r,s,g4⟩:=G.of S (AObj.here_of_own K) h3;exact⟨B,o,y,r,by rw[<-s.own];exact K,g4,e⟩
 have c4:∀ b o,σ.ro b=some o->¬ gvX σ ρ t1 b:=λb o h hg=>by obtain⟨B0,o0,x0,k1,k2,k3,k4⟩:=b5 hg;have:=R.sep B0 o0 x0 k1 k2 k3;rw[k4,h]at this;cases this
 have c6:∀ B o,A.t.get B=some o->o.here=true->B<A.next:=λB o h H=>by
  rcases R.obj0 B o h H with⟨b,d,c,u,_⟩|⟨_,r⟩;rcases IP B A.next with q|q
  exact q;rw[R.fresh B q]at u;cases u;exact(R.nl B r).1
 have Q:∀ j o x,A2.t.get j=some o->o.here=true->a j=some x->¬ (x.1<w.heap.size/\¬ gvX σ ρ t1 x.1):=λj o x ho H I ⟨Z,V⟩=>by rcases X.orig2 j o x ho H I with k1|⟨B0,o0,x0,k1,k2,k3,k4⟩;omega;exact V ⟨B0,o0,x0,k1,G.own _ _ k1 k2,k3,k4⟩
 have l:∀ B,B<A.next->(jP σ a A.next ρ2 (gvX σ ρ t1) w) B=σ B:=λB h=>Ht h
 have c0:∀ B,¬B<A.next->(jP σ a A.next ρ2 (gvX σ ρ t1) w) B=(ρ2 B).bind a.f:=λB h=>Hm h
 have O:∀ B,B<A.next->((jP σ a A.next ρ2 (gvX σ ρ t1) w).nl B↔σ.nl B):=λB h=>by show(if B<A.next then σ.nl B else _)↔_;rw[Ht h]
 have c3:∀ B,¬B<A.next->((jP σ a A.next ρ2 (gvX σ ρ t1) w).nl B↔∃ j,ρ2 B=some j/\a.nl j):=λB h=>by show(if B<A.next then σ.nl B else _)↔_;rw[Hm h]
 have M:∀ b,b<w.heap.size/\¬ gvX σ ρ t1 b->(jP σ a A.next ρ2 (gvX σ ρ t1) w).ro b=σ.ro b:=λb h=>Ht h;have Y:∀ b,¬(b<w.heap.size/\¬ gvX σ ρ t1 b)->(jP σ a A.next ρ2 (gvX σ ρ t1) w).ro b=a.ro b:=λb h=>Hm h;have z:∀ B j,ρ2 B=some j->(jP σ a A.next ρ2 (gvX σ ρ t1) w) B=a j/\((jP σ a A.next ρ2 (gvX σ ρ t1) w).nl B↔a.nl j):=λB j J=>by
  by_cases hB:B<A.next
  obtain⟨hj,c2⟩:=d1 B j hB J;have e1:a j=(sigT ρ σ) j:=X.sig j hj;have e2:(sigT ρ σ) j=σ B:=by show(ρ j).bind σ.f=σ.f B;rw[c2];rfl
  refine⟨by rw[l B hB,e1,e2],(O B hB).trans ?_⟩;refine Iff.trans ⟨λh=>⟨B,c2,h⟩,λ⟨B',S,K⟩=>?_⟩ (X.snl j hj).symm;rw[c2]at S;cases S;exact K;grind
 have a9:σ.sub (jP σ a A.next ρ2 (gvX σ ρ t1) w):=⟨λB x h=>by
  have hB:B<A.next:=by
   rcases IP B A.next with q|q
   exact q;have:=R.fresh B q;grind
  exact(l B hB).trans h,λb o h=>(M b ⟨iW (R.ro b o h),c4 b o h⟩).trans h⟩
 have a8:(sigT ρ2 a).sub (jP σ a A.next ρ2 (gvX σ ρ t1) w):=⟨λB x h=>by
  grind [bN],λb o h=>by
  have h:a.ro b=some o:=h;by_cases hc:b<w.heap.size/\¬ gvX σ ρ t1 b;refine(M b hc).trans ?_;rcases X.rog b o h with q|q|⟨B0,o0,x0,k1,k2,k3,k4⟩;exact q;exact absurd hc.1 (by omega);exact absurd ⟨B0,o0,x0,k1,k2,k3,k4⟩ hc.2;exact(Y b hc).trans h⟩
 have a6:∀ B o x,(∀i o1,t1.get i=some o1->o1.here=true->ρ i≠some B)->A.t.get B=some o->o.here=true->σ B=some x->x.1<w.heap.size/\¬ gvX σ ρ t1 x.1:=λB o x c1 h H I=>⟨R.lt B x I,λ⟨i,o1,y,S,K,h3,e⟩=>by obtain⟨C,o',u,r,s,g4⟩:=G.of S (AObj.here_of_own K) h3;exact R.inj C B o' o y x r h (by rw[<-s.own];exact K) H (λe2=>c1 i o1 S (AObj.here_of_own K) (by rw[u,e2])) g4 I e⟩
 have L:∀ B o,tA.get B=some o->o.here=true->(∃j o2,ρ2 B=some j/\A2.t.get j=some o2/\ROX ρ2 o2 o/\o2.here=true)∨((∀i o1,t1.get i=some o1->o1.here=true->ρ i≠some B)/\A.t.get B=some o/\B<A.next):=λB o h H=>by rcases c5 B o h with⟨j,o2,u,r,s⟩|⟨V,Z⟩;exact .inl ⟨j,o2,u,r,s,by rw[<-s.here];exact H⟩;exact .inr ⟨Z,V,c6 B o V H⟩
 refine⟨jP σ a A.next ρ2 (gvX σ ρ t1) w,(hv.move v' d2).mono a8,⟨λB o h hh=>?_,λB1 B2 o1 o2 x1 x2 S K a5 a7 c1 U D=>?_,λB x h=>?_,λB h=>?_,λb o h=>?_,λB o x h ho I=>?_,λB h=>?_⟩,⟨λB h=>l B h,hN,X.size,λb J hn=>a0 b J λd3=>?_,λB o x h ho I=>?_,λB o x h ho I=>?_,X.os,X.tape,X.output,a9.ro,λb o h=>?_,λB h=>O B h⟩⟩;rcases L B o h hh with⟨j,o2,u,r,s,g4⟩|⟨u,r,s⟩;rcases R2.obj0 j o2 r g4 with⟨b,d,c,Z,V⟩|⟨Z,V⟩;exact .inl ⟨b,d,c,(z B j u).1.trans Z,(s.move V).mono a8⟩;exact .inr ⟨s.nilOk.trans Z,(z B j u).2.2 V⟩;rcases R.obj0 B o r hh with⟨b,d,c,Z,V⟩|⟨Z,V⟩;refine .inl ⟨b,d,c,(l B s).trans Z,?_⟩;have:=a6 B o _ u r hh Z;rw[a0 b this.1 this.2];exact V.mono a9;exact .inr ⟨Z,(O B s).2 V⟩;rcases L B1 o1 S (AObj.here_of_own a5)with⟨j1,p1,a1,a2,a3,a4⟩|⟨a1,a2,a3⟩;rw[(z B1 j1 a1).1]at U;rcases L B2 o2 K a7 with⟨j2,p2,b1,b2,b3,b4⟩|⟨b1,b2,b3⟩;rw[(z B2 j2 b1).1]at D;exact R2.inj j1 j2 p1 p2 x1 x2 a2 b2 (by rw[<-a3.own];exact a5) b4 (λe=>by grind) U D;rw[l B2 b3]at D;intro e;exact Q j1 p1 x1 a2 a4 U (e▸a6 B2 o2 x2 b1 b2 a7 D);rw[l B1 a3]at U;rcases L B2 o2 K a7 with⟨j2,p2,b1,b2,b3,b4⟩|⟨b1,b2,b3⟩;rw[(z B2 j2 b1).1]at D;intro e;exact Q j2 p2 x2 b2 b4 D (e▸a6 B1 o1 x1 a1 a2 (AObj.here_of_own a5) U);rw[l B2 b3]at D;exact R.inj B1 B2 o1 o2 x1 x2 a2 b2 a5 a7 c1 U D;by_cases hB:B<A.next
 rw[l B hB]at h;exact It (R.lt B x h) X.size;rw[c0 B hB]at h;cases J:ρ2 B with
 |none=>rw[J]at h;cases h
 |some j=>rw[J]at h;exact R2.lt j x h
 have h:nx<=B:=h;rw[c0 B (by omega)];cases J:ρ2 B with
 |none=>rfl
 |some j=>exact absurd (b0 B j J) (by omega)
 by_cases J:b<w.heap.size/\¬ gvX σ ρ t1 b;rw[M b J]at h;rw[a0 b J.1 J.2];exact R.ro b o h;rw[Y b J]at h;exact R2.ro b o h;rcases L B o h (AObj.here_of_own ho)with⟨j,o2,u,r,s,g4⟩|⟨u,r,s⟩;rw[(z B j u).1]at I;rw[Y _ (Q j o2 x r g4 I)];exact R2.sep j o2 x r (by rw[<-s.own];exact ho) I;rw[l B s]at I;rw[M _ (a6 B o x u r (AObj.here_of_own ho) I)];exact R.sep B o x r ho I;by_cases hB:B<A.next
 have:=R.nl B ((O B hB).1 h);grind;obtain⟨j,S,K⟩:=(c3 B hB).1 h;exact⟨b0 B j S,(z B j S).1.trans (R2.nl j K).2⟩;grind;· rcases L B o h (AObj.here_of_own ho)with⟨j,o2,u,r,s,g4⟩|⟨u,r,s⟩;all_goals grind
 rcases L B o h ho with⟨j,o2,u,r,s,g4⟩|⟨u,r,s⟩;rw[(z B j u).1]at I;rcases IP x.1 w.heap.size with q|q;obtain⟨B0,o0,x0,k1,k2,k3,k4⟩:=b5 (IL λhn=>Q j o2 x r g4 I ⟨q,hn⟩);grind [AObj.here_of_own];exact .inl q;grind;grind
def yn(E:Env)(f:FuncId)(k:Nat)(args:Lh)(A:AH)(v:Value)(N:AH):Prop:=∀ σ w args',Rel E.P σ A w->Glob E σ->VRs σ args args'->
 Calls E.P f ⟨args'⟩ w (λe w'=>∃ v' σ',e=.returned v'/\VR σ' v v'/\Rel E.P σ' N w'/\Ext σ ⟨A.t,k⟩ w σ' N w')
def WalkK(E:Env)(fn:Func)(k:Nat)(args:Lh)(A1:AH)(v:Value)(N:AH):Prop:=
 ∃c F,fn.body=some c/\Nat.ble args.length fn.ntmps=true/\b8 args 0 .leaf=some F/\k<=A1.next/\W E ⟨A1.t,k⟩ fn.ntmps c (Fin E fn (EndF E ⟨A1.t,k⟩ v N)) F A1
def Cz(X:SX)(d:Nat)(fn:Func)(A0:AH)(args:Lh)(A1:AH)(K:KV):Prop:=match fn.body with
 | some c=>(match b8 args 0 .leaf with
   |some F=>bif Nat.ble args.length fn.ntmps then sxC X (inlN X d) A0 fn.ntmps c F A1 (finK X.E fn.results.toList K)else False
   |none=>False)
 |none=>False
theorem tb(i:X.Ok)(b:k<=A1.next)(h:Cz X d fn ⟨A1.t,k⟩ args A1 (EndF X.E ⟨A1.t,k⟩ v N)):WalkK X.E fn k args A1 v N:=by unfold Cz at h;split at h;rename_i c f;split at h;rename_i F j;cases a:Nat.ble args.length fn.ntmps;rw[a]at h;exact h.elim;rw[a]at h;refine⟨c,F,f,a,j,b,(ik i (d:=d) h).mono λl r s q=>?_⟩;grind [eG];exact h.elim;exact h.elim
theorem WalkK.call(M:E.Ok){f:FuncId}(D:E.fn f=some fn)(O:WalkK E fn k args A1 v N):yn E f k args A1 v N:=by
 intro σ w J R K V;obtain⟨L,F,b,l,a,S,Y⟩:=O;have X1:Ext σ ⟨A1.t,k⟩ w σ A1 w:=⟨λ_ _=>rfl,S,Hw _,λ_ _ _=>rfl,λB o x s r q=>.inr ⟨B,o,x,s,r,q,rfl⟩,λB o x s r q=>.inr ⟨B,o,x,s,r,q,rfl⟩,rfl,rfl,rfl,λ_ _ h=>h,λ_ _ h=>.inl h,λ_ _=>JC⟩;refine(lz M D b a (IF l) Y R K X1 V).mono λen w' U=>?_;obtain⟨v2,v',A2,i,rfl,⟨F2,F1,H,I,Q⟩,Z,R2,X⟩:=U;have C:Glob E i:=λg cs h=>let ⟨s,r,c,e,fz,q,h4⟩:=K g cs h;⟨s,r,c,e,fz,X.sro _ _ q,h4⟩;have j:=H6 H;obtain⟨z,G,R3,_,X3⟩:=Q _ w ⟨#[v'],[]⟩ w' ⟨i,⟨rfl,λt u y=>by unfold slot at y;rw[j]at y;by_cases e:t=0;simp_all;rw[Hm e]at y;simp[T.get]at y,rfl⟩,R2,C,X⟩
 exact⟨v',z,rfl,G.val 0 v I,R3,X3⟩
theorem eL{f:FuncId}{a:Lh}{ρ2:Nat->Lk}{y:Value}(G:GivenX A ρ t1 k1)(C:RVs ρ args a)
 (J:yn E f k a ⟨t1,k1⟩ y N)
 (Q:A.next<=nx) (s:∀ B i,B<A.next->ρ2 B=some i->i<k/\ρ i=some B) (l:∀ B i,ρ2 B=some i->B<nx)
 (b:∀ x B2 i o1 o2,tA.get x=some o1->o1.own=true->tA.get B2=some o2->o2.here=true->ρ2 x=some i->ρ2 B2=some i->x=B2) (K:RV ρ2 y v)
 (r:∀ B o,tA.get B=some o->(∃i o2,ρ2 B=some i/\N.t.get i=some o2/\ROX ρ2 o2 o)∨(A.t.get B=some o/\∀ i o1,t1.get i=some o1->o1.here=true->ρ i≠some B)):CallAt E f args A v ⟨tA,nx⟩:=by intro σ w j R L O;refine(J _ w j (R.renX G) (λg S h=>L g S h) (C.move O)).mono λY w' M=>?_;obtain⟨v',z,rfl,u,V,U⟩:=M;obtain⟨q,I,H,D⟩:=p5 R G V U u Q s l b K r;exact⟨v',q,rfl,I,H,D⟩
def zc(ar:TypeId->Lk)(nm:Lg)(m:Ld)(A:AH)(l:Ld):Option (Lh×List (Nat×AObj)):=
 List.rec (motive:=λ_=>Option (Lh×List (Nat×AObj))) (some ([],[])) (λx _ ih=>bif inL x.1 nm then(match ih with|some s=>some (s.1,(x.1,.dead)::s.2)|none=>none)else(match A.t.get x.2 with
  | some o=>bif o.own then(match kM ar m o with
    |some r=>(match ih with|some s=>some (r.1++s.1,(x.1,r.2)::s.2)|none=>none)
    |none=>none)else none
  |none=>none)) l
theorem mj{ar:TypeId->Lk}{a:Lg}{m:Ld}{A:AH}:∀ {l:Ld}{r},zc ar a m A l=some r->(∀x∈l,back m x.1=some x.2)->(∀x∈r.1,HF x)->
 (∀i o1,(i,o1)∈r.2->(inL i a=true/\o1=.dead)∨(inL i a=false/\o1.own=true/\∃ B o,back m i=some B/\A.t.get B=some o/\RO (back m) o o1))/\r.2.map (·.1)=l.map (·.1)
 | [],r,h,_,_=>by have h:some ([],[])=some r:=h;grind
 | t ::l,r,h,hb,hh=>by
  have h:(bif inL t.1 a then(match zc ar a m A l with|some s=>some (s.1,(t.1,.dead)::s.2)|none=>none)else(match A.t.get t.2 with
   | some o=>bif o.own then(match kM ar m o with
     |some r=>(match zc ar a m A l with|some s=>some (r.1++s.1,(t.1,r.2)::s.2)|none=>none)
     |none=>none)else none
   |none=>none))=some r:=h
  cases u:inL t.1 a with
  |true=>rw[u]at h;simp only[C']at h;split at h;rename_i s j;cases h;obtain⟨z,y⟩:=mj j (λx b=>hb x (by simp[b])) hh;grind;cases h
  |false=>rw[u]at h;simp only[HJ]at h;split at h;rename_i v D;cases q:v.own;rw[q]at h;cases h;rw[q]at h;simp only[C']at h;split at h;rename_i C H;split at h;rename_i s j;cases h;obtain⟨z,y⟩:=mj j (λx b=>hb x (by simp[b])) λx b=>hh x (by simp[b]);refine⟨λi o1 G=>?_,by simp[y]⟩;rcases HE.1 G with e|e;cases e;have f:=jd (r:=C) H λx b=>hh x (by simp[b]);exact .inr ⟨u,by rw[f.own];exact q,t.2,v,hb t (by simp),D,f⟩;exact z i o1 e;cases h;cases h;cases h
def zd(nm:Lg)(m:Ld)(A:AH)(l:Ld):Option (Lh×List (Nat×AObj)):=
 List.rec (motive:=λ_=>Option (Lh×List (Nat×AObj))) (some ([],[])) (λx _ ih=>bif inL x.2 nm then ih else(match A.t.get x.2 with
  | some o=>bif o.own|| !o.here then(match kM (λ_=>none) m o with
    |some r=>(match ih with|some s=>some (r.1++s.1,(x.1,r.2)::s.2)|none=>none)
    |none=>none)else none
  |none=>none)) l
theorem mn{b:Lg}{m:Ld}{A:AH}:∀ {l:Ld}{r},zd b m A l=some r->(∀x∈l,back m x.1=some x.2)->(∀x∈r.1,HF x)->RenH m A r.2/\∀ x∈l,inL x.2 b=false->∃ o,(x.1,o)∈r.2
 | [],r,h,_,_=>by have h:some ([],[])=some r:=h;cases h;exact⟨.nil,λx a=>(by cases a)⟩
 | t ::l,r,h,hb,hh=>by
  have h:(bif inL t.2 b then zd b m A l else(match A.t.get t.2 with
   | some o=>bif o.own|| !o.here then(match kM (λ_=>none) m o with
     |some r=>(match zd b m A l with|some s=>some (r.1++s.1,(t.1,r.2)::s.2)|none=>none)
     |none=>none)else none
   |none=>none))=some r:=h
  cases j:inL t.2 b with
  |true=>rw[j]at h;simp only[C']at h;obtain⟨f,q⟩:=mn h (λx a=>hb x (by simp[a])) hh;grind
  |false=>
  rw[j]at h;simp only[HJ]at h;split at h;rename_i v u;cases i:(v.own|| !v.here)with
  |false=>rw[i]at h;cases h
  |true=>rw[i]at h;simp only[C']at h;split at h;rename_i C z;split at h;rename_i s y;cases h;obtain⟨f,q⟩:=mn y (λx a=>hb x (by simp[a])) λx a=>hh x (by simp[a]);refine⟨.cons (hb t (by simp)) u (jd z λx a=>hh x (by simp[a])) f,λx a D=>?_⟩;grind;cases h;cases h
  cases h
def frmQ (ar:TypeId->Lk)(nm:Lg)(spec:Lh->List AObj->Option (Ll×Value×List AObj)):RunF:=λargs A=>
 match numb (th [] A 64 (kI (blks 8) args) []) 0 with
 | m => (match renL (renV m 8) args,zc ar nm m A m with
   | some ra,some hs=>(match spec ra.2 (hs.2.map (·.2))with
     | some r=>bif ((bq (lenM m) m&&baks m)&&(ofL hs.2 .leaf).isSome)&&Nat.ble (lenM m) r.2.2.length then
      (match outM m A.next (lenM m) (r.2.2.length-lenM m)with
      | m2 =>(match renV m2 8 r.2.1,zd nm m2 (aQ r.2.2) m2 with
        | some rv,some ho=>bif bq (A.next+(r.2.2.length-lenM m)) m2&&baks m2 then(match setAll ho.2 A.t with
          |some tA=>some (some (HFs (ra.1++(hs.1++(rv.1++ho.1))) (PH r.1)),rv.2,⟨tA,A.next+(r.2.2.length-lenM m)⟩)
          |none=>none)else none
        |_,_=>none))else none
     |none=>none)
   |_,_=>none)
theorem wV(ok:E.Ok){f:FuncId}(a8:E.fn f=some fn){nm:Lg}{D:Lh->List AObj->Option (Ll×Value×List AObj)}
 (h:∀ args H p v s,D args H=some (p,v,s)->PH p->WalkF E fn args (aQ H) v (aQ s)):∀ args A p v A',frmQ ar nm D args A=some (p,v,A')->PH p->CallAt E f args A v A':=by
 intro args A p v A' a hp;unfold frmQ at a;simp only at a;generalize b5:th [] A 64 (kI (blks 8) args) []=bs at a;have u:=mq bs 0;generalize b3:numb bs 0=m at a u;rw[pJ]at a;have a5:m.length=bs.length:=by have:=Il List.length u;simpa using this
 split at a;rename_i ra J a3 a6;split at a
 · rename_i r a1;cases Y:((bq m.length m&&baks m)&&(ofL J.2 .leaf).isSome)&&Nat.ble m.length r.2.2.length with
   |false=>rw[Y]at a;cases a
   |true=>
   rw[Y]at a;simp only[C']at a;simp only[f',HA,JU]at Y;obtain⟨⟨⟨I,b0⟩,t1,O⟩,b4⟩:=Y;generalize Q:outM m A.next m.length (r.2.2.length-m.length)=m2 at a
   split at a
   · rename_i rv ho a2 a7;cases b:bq (A.next+(r.2.2.length-m.length)) m2&&baks m2 with
     |false=>rw[b]at a;cases a
     |true=>
     rw[b]at a;simp only[C']at a;rw[f']at b;split at a
     · rename_i tA a0;cases a;obtain⟨C,a4⟩:=gB hp;have b1:=np b0;have b2:=np b.2;obtain⟨rh,S⟩:=mj a6 b1 λx z=>C x (by simp[z]);obtain⟨rl,a9⟩:=mn a7 b2 λx z=>C x (by simp[z]);have R:J.2.length=m.length:=by have:=Il List.length S;simpa using this
       have e1:wG 0 (J.2.map (·.2))=J.2:=mH _ 0 (by rw[S,u,R,a5]);have M:=(h ra.2 (J.2.map (·.2)) r.1 r.2.1 r.2.2 a1 a4).call ok a8;have e2:aQ (J.2.map (·.2))=⟨t1,m.length⟩:=by unfold aQ;rw[e1,O];simp[R]
       rw[e2]at M;have L:∀ y∈m,(y.2,y.1)∈m2:=λy V=>by rw[<-Q];exact mem_outM.2 (.inl ⟨y,V,rfl⟩)
       have U:∀ i o1,t1.get i=some o1->(inL i nm=true/\o1=.dead)∨(inL i nm=false/\o1.own=true/\∃ B o,back m i=some B/\A.t.get B=some o/\RO (back m) o o1):=λi o1 l=>by rcases dD O l with q|q;all_goals grind [T.get]
       have G:GivenX A (back m) t1 m.length:=⟨λi o1 l K=>by
        rcases U i o1 l with⟨_,e⟩|⟨_,_,B,o,q1,Z,q3⟩;rw[e]at K;simp[AObj.here]at K;exact⟨B,o,q1,Z,.of q3⟩,λi o1 l K=>by
        grind [AObj.here],λi j B o1 o2 _ _ _ _ h1 h2=>dt I h1 h2,λi B l=>cx I (ba l)⟩
       refine eL (ρ2:=back m2) G (cS (cm 8) a3 λx z=>C x (by simp[z])) (k:=m.length) M (IT _ _) (λB i hB l=>?_) (λB i l=>cx b.1 (ba l)) (λB1 B2 i o1 o2 _ _ _ _ h1 h2=>dt b.1 h1 h2) (cm 8 _ _ a2 λx z=>C x (by simp[z])) (λB o hB=>?_);have z:=ba l;rw[<-Q]at z;rcases mem_outM.1 z with⟨y,V,e⟩|⟨j,hj,e⟩;cases e;exact⟨cx I (B':=y.1) (B:=y.2) V,b1 y V⟩;cases e;omega;rcases io a0 hB with q|⟨q1,Z⟩;obtain⟨i,o2,g1,g2,g3⟩:=rl.mem q;exact .inl ⟨i,o2,g1,g2,.of g3⟩;refine .inr ⟨Z,λi o1 l K e=>?_⟩;rcases U i o1 l with⟨_,e2⟩|⟨hn,_⟩;rw[e2]at K;simp[AObj.here]at K;obtain⟨o3,h3⟩:=a9 _ (L _ (ba e)) hn;exact q1 _ h3 rfl
     cases a
   cases a
 cases a;cases a
theorem _root_.Go.IU:type_of% @List.mem_iff_getElem?:=@List.mem_iff_getElem?
def frzB(σ:Sig)(p:Li)(g:Nat->Option AObj)(b:Nat):Prop:=∃ j o x,g j=some o/\o.own=true/\σ (T.numF p j)=some x/\x.1=b
open Classical in
def sigY(σ:Sig)(w:World)(p:Li)(g:Nat->Option AObj):Sig:=⟨σ.f,λb=>if frzB σ p g b then w.heap[b]? else σ.ro b,σ.nl⟩
theorem qI{b:Nat}(h:frzB σ p g b):(sigY σ w p g).ro b=w.heap[b]?:=Ht h
theorem ja{b:Nat}(h:¬ frzB σ p g b):(sigY σ w p g).ro b=σ.ro b:=Hm h
theorem Rel.frzF(R:Rel P σ A w)(hg:T.getFn p A.t=some g)(Y:T.setFn p A.t (λ_=>none)=some t1):
 σ.sub (sigY σ w p g)/\Rel P (sigY σ w p g) ⟨t1,A.next⟩ w/\Ext σ A w (sigY σ w p g) ⟨t1,A.next⟩ w:=by
 have q:=I8 hg;have a:∀ {B:Nat}{o:AObj},t1.get B=some o->¬ T.InF p B/\A.t.get B=some o:=fun {B o} h=>by by_cases hi:T.InF p B;obtain⟨i,rfl⟩:=hi;rw[JK Y]at h;cases h;grind [JB]
 have Q:∀ b,frzB σ p g b->σ.ro b=none:=λb ⟨j,o,x,l,r,u,h4⟩=>by have:=R.sep (T.numF p j) o x (by rw[q];exact l) r u;rw[h4]at this;exact this
 have f:σ.sub (sigY σ w p g):=⟨λ_ _ h=>h,λb o h=>by grind [ja]⟩
 refine⟨f,⟨λB o h H=>?_,λB1 B2 o1 U S x2 l r z H G D C=>?_,R.lt,R.fresh,λb o h=>?_,λB o x h z O=>?_,R.nl⟩,⟨λ_ _=>rfl,Hw _,Hw _,λ_ _ _=>rfl,λB o x l r u=>.inr ⟨B,o,x,(a l).2,r,u,rfl⟩,λB o x l r u=>.inr ⟨B,o,x,(a l).2,r,u,rfl⟩,rfl,rfl,rfl,λb o h=>f.ro b o h,λb o h=>?_,λ_ _=>JC⟩⟩;rcases R.obj0 B o (a h).2 H with⟨b,d,c,k1,V⟩|k;exact .inl ⟨b,d,c,k1,V.mono f⟩;exact .inr k;exact R.inj B1 B2 o1 U S x2 (a l).2 (a r).2 z H G D C;by_cases s:frzB σ p g b;rw[qI s]at h;exact h;rw[ja s]at h;exact R.ro b o h;obtain⟨Z,l⟩:=a h;rw[ja (λ⟨j,M,y,L,K,J,I⟩=>R.inj (T.numF p j) B M o y x (by rw[q];exact L) l K (AObj.here_of_own z) (λe=>Z ⟨j,e.symm⟩) J O I)];exact R.sep B o x l z O;by_cases s:frzB σ p g b;obtain⟨j,M,y,L,K,J,I⟩:=s;grind;rw[ja s]at h;exact .inl h
theorem frz_VR{σ':Sig}(R:Rel P σ A w)(L:σ.sub σ')(S:∀ B,σ'.f B=σ.f B){m:Nat}{e2:TypeId}(V:A.t.get B2=some (.gro els tl e2))(U:isG m=true)(z:P.cellsOf e2=gsz m)
 (j:(els++tl).length=n) (s:∀ x,σ B2=some x->σ'.ro x.1=w.heap[x.1]?):∀ v',VR σ' (.slice (some ⟨B2,0,none⟩) n m) v'->VR σ' (.func (.yield (gsz m)) ⟨els++tl⟩ ⟨[]⟩) v':=by
 have b:∀ a,(els++tl).length=0->VR σ' (.func (.yield (gsz m)) ⟨els++tl⟩ ⟨[]⟩) (.slice a 0 0):=λa h=>by
  rw[H0 h];cases a with
  |none=>exact .datN _
  |some a=>exact .datE _ _ _
 intro v' r;rcases b7 r U with⟨e0,a,D⟩|⟨I,d',H,J,k,l,D,hn,hc,eo⟩;rw[D];exact b a (j.trans e0);have q:σ B2=some (I,d',H):=(S B2).symm.trans l;obtain⟨ca,K,Q,g1,g2,g3,C,Z,Y⟩:=R.at V rfl q;have M:σ'.ro I=some (.cells ca e2 (K,Q)):=(s _ q).trans g1;rw[D,<-j];rw[z]at C Z;refine .dat M C (by omega) ?_;refine VRs.mono L (VRs.of_get ?_ λi v y=>?_);rw[aE C];have G:(els++tl).length*gsz m<=H*gsz m:=H5 _ Y;grind;obtain⟨u,k1,r⟩:=g3 i v y;refine⟨u,?_,r⟩;have O:i<(els++tl).length*gsz m:=by grind [Hx,aE]
 grind
theorem jU(R:Rel P σ A w){els2:Lh}{t:T AObj}(M:A.t.get B=some (.gro els tl e))(r:∀ x∈els++tl,fU x)(q:∀ x∈els2,fU x)(K:els2.length=(els++tl).length)
 (U:∀ (i:Nat) (x x2:Value),(els++tl)[i]? =some x->els2[i]? =some x2->∀ v',VR σ x v'->VR σ x2 v') (J:T.set FU A.t B (.gro els2 [] e)=some t):Rel P σ ⟨t,A.next⟩ w/\Ext σ A w σ ⟨t,A.next⟩ w:=
 Rel.retell (o2:=.gro els2 [] e) R M J rfl rfl rfl (λb3 V Y h=>by
  obtain⟨O,a,f,G,D,C,Q,z,s⟩:=h;refine⟨O,a,f,G,D,λi u I=>?_,λx j=>?_,z,by rw[Hu,K];exact s⟩;rw[Hu,fP q]at I;have L:i<(els++tl).length:=by grind
  obtain⟨v',k1,S⟩:=C i (els++tl)[i] (by rw[fP r];exact Hr L);grind;rw[Hu]at j;have Z:x.cells.size=1:=by have:=Il List.length (q x j);simpa using this
  cases b:els++tl with
  |nil=>grind
  |cons y l=>
  have H:y∈els++tl:=by rw[b];exact HT
  have:=Il List.length (r y H);grind)
theorem gb(a:Option Addr)(n m:Nat):fU (.slice a n m):=rfl
theorem oG(f:Fn)(x y:Array Value):fU (.func f x y):=rfl
theorem Turns.frzFam{B0:Nat}{els2:Lh}{t2:T AObj}(I:T.getFn p A.t=some g)(H:T.setFn p A.t (λ_=>none)=some t1)
 (hB:A.t.get B0=some (.gro els tl e)) (V:¬ T.InF p B0) (Y:els2.length=(els++tl).length)
 (U:∀ (i:Nat) (x x2:Value),(els++tl)[i]? =some x->els2[i]? =some x2->∃ (j k m:Nat) (l r:Lh) (e2:TypeId),x=.slice (some ⟨T.numF p j,0,none⟩) k m/\g j=some (.gro l r e2)/\isG m=true/\E.P.cellsOf e2=gsz m/\(l++r).length=k/\x2=.func (.yield (gsz m)) ⟨l++r⟩ ⟨[]⟩)
 (u:T.set FU t1 B0 (.gro els2 [] e)=some t2):Turns E A0 n F A F ⟨t2,A.next⟩:=by
 intro J w0 a w ⟨σ,hF,R,z,X⟩;obtain⟨b,R1,X1⟩:=R.frzF I H;have f:=I8 I;have C:t1.get B0=some (.gro els tl e):=by rw[JB H B0 V];exact hB
 have G:∀ (i:Nat) (x:Value),(els++tl)[i]? =some x->∃ x2,els2[i]? =some x2:=λi x q=>by grind
 have h:∀ (i:Nat) (x:Value),els2[i]? =some x->∃ x2,(els++tl)[i]? =some x2:=λi x q=>by grind
 obtain⟨R2,X2⟩:=jU R1 C (λx q=>by
  grind [IU,gb]) (λx q=>by
  grind [IU,oG]) Y (λi x x2 h1 h2 v' s=>by
  obtain⟨j,k,m,l,r,e2,Q,D,O,M,L,K⟩:=U i x x2 h1 h2;rw[K];refine frz_VR R b (λ_=>rfl) (by rw[f];exact D) O M L (λy S=>qI ⟨j,_,y,D,rfl,S,rfl⟩) v' ?_;rw[<-Q];exact s) u
 have Z:=X1.trans X2;exact⟨_,hF.mono b,R2,z.sub b,X.trans Z⟩
theorem Turns.frzAt{B0 c m:Nat}{l r:Lh}{e2:TypeId}{t2:T AObj}(M:A.t.get B0=some (.gro els tl e))(z:A.t.get B2=some (.gro l r e2))(s:B0≠B2)(J:∀ x∈els++tl,fU x)
 (H:(els++tl)[c]? =some (.slice (some ⟨B2,0,none⟩) k m)) (K:isG m=true) (y:E.P.cellsOf e2=gsz m) (h:(l++r).length=k)
 (f:T.set FU A.t B2 .dead=some t1) (q:T.set FU t1 B0 (.gro ((els++tl).set c (.func (.yield (gsz m)) ⟨l++r⟩ ⟨[]⟩)) [] e)=some t2):Turns E A0 n F A F ⟨t2,A.next⟩:=by
 intro G U a w ⟨σ,L,R,u,X⟩;obtain⟨j,S,D,V⟩:=wX R z K y h f;have b:=Ext.sub R D;have C:t1.get B0=some (.gro els tl e):=by rw[H6 f,Hm s];exact M
 obtain⟨Q,O⟩:=jU S C J (λx H=>by
  grind [Iz,oG]) (by rw[Hz]) (λi x x2 Z Y v' I=>by
  grind) q
 exact⟨j,L.mono b,Q,u.sub b,X.trans (D.trans O)⟩
end
end Go.AM
