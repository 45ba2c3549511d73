/- A part of the proof. -/
import Derived.Calls
import Derived.Orders
import Derived.LoopN
import Derived.Below
import Derived.Laws.Sem
import Derived.Laws.Cells
import Derived.Laws.Entries
import Derived.Laws.Strings
import Derived.Laws.Tables
import Derived.Laws.BytesString
import Derived.Lib.Strings
import Derived.LaidEqlPtr
import Derived.Lib.Builder
import Derived.Laws.StructEq
import Derived.ChangeKeysEq
set_option linter.unusedVariables false
set_option linter.unusedSimpArgs false
abbrev _root_.Go.HE:=@Bool.eq_iff_iff
abbrev _root_.Go.GL:=@Nat.beq_eq
abbrev _root_.Go.Ia:=@decide_true
abbrev _root_.Go.It:=@decide_false
abbrev _root_.Go.Ie:=@if_true
abbrev _root_.Go.HV:=@if_false
abbrev _root_.Go.D':=@if_neg
abbrev _root_.Go.Gw:=@if_pos
abbrev _root_.Go.Hg:=@Nat.lt_or_ge
abbrev _root_.Go.I3:=@List.all_cons
abbrev _root_.Go.f':=@Bool.and_eq_true
theorem Go.osI{c :Type _}{a b: c}:(some a=some b)=(a=b):=Option.some.injEq a b
theorem Go.odt{p:Prop}[Decidable p](h:decide p=true):p:=of_decide_eq_true h
theorem Go.odf{p:Prop}[Decidable p](h:decide p=false):¬ p:=of_decide_eq_false h
abbrev Go.La:=List (List Int)
abbrev Go.Lb:=List (List Go.Value)
abbrev Go.Lc:=List (Go.Value×Go.Value×Nat)
abbrev Go.Ld:=List (Nat×Nat)
abbrev Go.Le:=List Int
abbrev Go.Lg:=List Nat
abbrev Go.Lh:=List Go.Value
abbrev Go.Li:=List Bool
abbrev Go.Lj:=Option Go.Value
abbrev Go.Lk:=Option Nat
abbrev Go.Ll:=Option Prop
namespace Go.AM
inductive T (α :Type)where
 |leaf:T α
 |node:T α ->Option α ->T α ->T α
 |fn:(Nat->Option α)->T α
namespace T
variable {α :Type}
noncomputable def get(t:T α):Nat->Option α :=
 T.rec (motive:=λ_=>Nat->Option α) (λ_=>none)
  (λ_ v _ ihl ihr k=>Bool.rec (motive:=λ_=>Option α) (Bool.rec (motive:=λ_=>Option α) (ihr (Nat.sub (Nat.div k 2) 1)) (ihl (Nat.div k 2)) (Nat.beq (Nat.mod k 2) 1)) v (Nat.beq k 0)) (λg k=>g k) t
noncomputable def mapL(v:Option α)(r:T α)(o:Option (T α)):Option (T α):=Option.rec (motive:=λ_=>Option (T α)) none (λl=>some (node l v r)) o
noncomputable def mapR(l:T α)(v:Option α)(o:Option (T α)):Option (T α):=Option.rec (motive:=λ_=>Option (T α)) none (λr=>some (node l v r)) o
noncomputable def setAt(ih:T α ->Nat-> α ->Option (T α))(l:T α)(v:Option α)(r:T α)(k:Nat)(x: α):Option (T α):=
 Bool.rec (motive:=λ_=>Option (T α)) (Bool.rec (motive:=λ_=>Option (T α)) (mapR l v (ih r (Nat.sub (Nat.div k 2) 1) x)) (mapL v r (ih l (Nat.div k 2) x)) (Nat.beq (Nat.mod k 2) 1)) (some (node l (some x) r)) (Nat.beq k 0)
noncomputable def set(f:Nat):T α ->Nat-> α ->Option (T α):=
 Nat.rec (motive:=λ_=>T α ->Nat-> α ->Option (T α)) (λ_ _ _=>none)
  (λ_ ih t k x=>T.rec (motive:=λ_=>Option (T α)) (setAt ih leaf none leaf k x) (λl v r _ _=>setAt ih l v r k x) (λg=>some (fn λj=>Bool.rec (motive:=λ_=>Option α) (g j) (some x) (Nat.beq j k))) t) f
theorem get_fn(g:Nat->Option α)(k:Nat):(fn g).get k=g k:=rfl
theorem set_fn(f:Nat)(g:Nat->Option α)(k:Nat)(x: α):set (f+1) (fn g) k x=some (fn λj=>Bool.rec (motive:=λ_=>Option α) (g j) (some x) (Nat.beq j k)):=rfl
theorem get_leaf(k:Nat):(leaf:T α).get k=none:=rfl
theorem get_node(l:T α)(v:Option α)(r:T α)(k:Nat):
 (node l v r).get k=if k=0 then v else if k%2=1 then l.get (k/2)else r.get (k/2-1):=by
 have c:Nat.beq k 0=decide (k=0):=by rw[HE];simp[GL]
 have b:Nat.beq (k%2) 1=decide (k%2=1):=by rw[HE];simp[GL]
 show Bool.rec (motive:=λ_=>Option α) (Bool.rec (motive:=λ_=>Option α) (r.get (k/2-1)) (l.get (k/2)) (Nat.beq (k%2) 1)) v (Nat.beq k 0)=_;rw[c,b];by_cases h:k=0;simp[h];by_cases a:k%2=1<;>simp[h,a]
theorem setAt_eq(f:Nat)(l:T α)(v:Option α)(r:T α)(k:Nat)(x: α):
 setAt (set f) l v r k x=(if k=0 then some (node l (some x) r)else if k%2=1 then(match set f l (k/2) x with|some l'=>some (node l' v r)|none=>none)
       else(match set f r (k/2-1) x with|some b=>some (node l v b)|none=>none)):=by
 have d:Nat.beq k 0=decide (k=0):=by rw[HE];simp[GL]
 have c:Nat.beq (k%2) 1=decide (k%2=1):=by rw[HE];simp[GL]
 show Bool.rec (motive:=λ_=>Option (T α)) (Bool.rec (motive:=λ_=>Option (T α)) (mapR l v (set f r (k/2-1) x)) (mapL v r (set f l (k/2) x)) (Nat.beq (k%2) 1)) (some (node l (some x) r)) (Nat.beq k 0)=_;rw[d,c];by_cases h:k=0;simp[h];by_cases a:k%2=1;simp only[h,a,Ia,It,Ie,HV];cases set f l (k/2) x<;>rfl;simp only[h,a,It,HV];cases set f r (k/2-1) x<;>rfl
theorem set_node(f:Nat)(l:T α)(v:Option α)(r:T α)(k:Nat)(x: α):set (f+1) (node l v r) k x=setAt (set f) l v r k x:=rfl
theorem get_set{f:Nat}:∀ {t i:T α}{k:Nat}{x: α},set f t k x=some i->∀ j,i.get j=if j=k then some x else t.get j:=by
 induction f with
 |zero=>intro t i k x h;cases h
 |succ f q=>
 intro t i k x h j
 have m : ∀(l r:T α) (v:Option α),
  (if k=0 then some (node l (some x) r)else if k%2=1 then(match set f l (k/2) x with|some p=>some (node p v r)|none=>none)
   else(match set f r (k/2-1) x with|some o=>some (node l v o)|none=>none))=some i->
  i.get j=if j=k then some x else(node l v r).get j:=by
  intro l r v h
  by_cases s:k=0
  · subst s
    simp only[Ie,osI]at h
    subst h
    rw[get_node,get_node]
    by_cases b:j=0<;>simp[b]
  · rw [D' s]at h
    by_cases n:k%2=1
    · rw [Gw n]at h
      cases c:set f l (k/2) x with
      |none=>simp[c]at h
      | some p=>
        simp only[c,osI]at h
        subst h
        rw[get_node,get_node,q c]
        by_cases b:j=0
        · subst b;simp;omega
        · by_cases d:j%2=1
          · simp only[b,d,Ie,HV]
            by_cases a:j=k
            · simp[a]
            · rw[D' a,D' (by omega)]
          · simp only[b,d,HV]
            rw[D' (by intro e;subst e;exact d n)]
    · rw [D' n]at h
      cases c:set f r (k/2-1) x with
      |none=>simp[c]at h
      | some o=>
        simp only[c,osI]at h
        subst h
        rw[get_node,get_node,q c]
        by_cases b:j=0
        · subst b;simp;omega
        · by_cases d:j%2=1
          · simp only[b,d,Ie,HV]
            rw[D' (by intro e;subst e;exact n d)]
          · simp only[b,d,HV]
            by_cases a:j=k
            · simp[a]
            · rw[D' a,D' (by omega)]
 cases t with
 |leaf=>have u:=m leaf leaf none (by rw[<-setAt_eq];exact h);rw[u,get_node];simp[get_leaf]
 |node l v r=>exact m l r v (by rw[<-setAt_eq];exact h)
 |fn g=>
 rw[set_fn]at h;cases h;rw[get_fn,get_fn];have w:Nat.beq j k=decide (j=k):=by rw[HE];simp[GL]
 rw[w];by_cases b:j=k<;>simp[b]
noncomputable def setFn:Li->T α ->(Nat->Option α)->Option (T α)
 | [],leaf,g=>some (fn g)
 | [],fn _,g=>some (fn g)
 | [],node ..,_=>none
 |true::p,leaf,g=>mapL none leaf (setFn p leaf g)
 |true::p,node l v r,g=>mapL v r (setFn p l g)
 |false::p,leaf,g=>mapR leaf none (setFn p leaf g)
 |false::p,node l v r,g=>mapR l v (setFn p r g)
 |_::_,fn _,_=>none
noncomputable def getFn:Li->T α ->Option (Nat->Option α)
 | [],leaf=>some λ_=>none
 | [],fn g=>some g
 | [],node .. =>none
 |_::_,leaf=>some λ_=>none
 |true::p,node l _ _=>getFn p l
 |false::p,node _ _ r=>getFn p r
 |_::_,fn _=>none
def numF:Li->Nat->Nat
 | [],i=>i
 |true::p,i=>2*numF p i+1
 |false::p,i=>2*numF p i+2
def unF:Li->Nat->Nat
 | [],k=>k
 |true::p,k=>unF p (k/2)
 |false::p,k=>unF p (k/2-1)
theorem unF_numF:∀ (p:Li) (i:Nat),unF p (numF p i)=i
 | [],i=>rfl
 |true::p,i=>by show unF p ((2*numF p i+1)/2)=i;rw[show(2*numF p i+1)/2=numF p i by omega];exact unF_numF p i
 |false::p,i=>by show unF p ((2*numF p i+2)/2-1)=i;rw[show(2*numF p i+2)/2-1=numF p i by omega];exact unF_numF p i
theorem numF_inj:∀ (p:Li) {i j:Nat},numF p i=numF p j->i=j
 | [],i,j,h=>h
 |true::p,i,j,h=>numF_inj p (by simp only[numF]at h;omega)
 |false::p,i,j,h=>numF_inj p (by simp only[numF]at h;omega)
theorem cL(l:T α)(v:Option α)(r:T α)(k:Nat):(node l v r).get (2*k+1)=l.get k:=by rw[get_node,D' (by omega),Gw (by omega)];congr 1;omega
theorem cu(l:T α)(v:Option α)(r:T α)(k:Nat):(node l v r).get (2*k+2)=r.get k:=by rw[get_node,D' (by omega),D' (by omega)];congr 1;omega
theorem getFn_ok:∀ {p:Li}{t:T α}{g:Nat->Option α},getFn p t=some g->∀ i,t.get (numF p i)=g i
 | [],leaf,g,h,i=>by simp only[getFn,osI]at h;subst h;rfl
 | [],fn _,g,h,i=>by simp only[getFn,osI]at h;subst h;rfl
 | [],node ..,g,h,i=>by cases h
 |true::p,leaf,g,h,i=>by simp only[getFn,osI]at h;subst h;rfl
 |false::p,leaf,g,h,i=>by simp only[getFn,osI]at h;subst h;rfl
 |true::p,node l v r,g,h,i=>by show(node l v r).get (2*numF p i+1)=_;rw[cL];exact getFn_ok (p:=p) h i
 |false::p,node l v r,g,h,i=>by show(node l v r).get (2*numF p i+2)=_;rw[cu];exact getFn_ok (p:=p) h i
 |true::p,fn _,g,h,i=>by cases h
 |false::p,fn _,g,h,i=>by cases h
def InF(p:Li)(k:Nat):Prop:=∃ i,k=numF p i
theorem setFn_in:∀ {p:Li}{t a:T α}{g:Nat->Option α},setFn p t g=some a->∀ i,a.get (numF p i)=g i
 | [],leaf,a,g,h,i=>by simp only[setFn,osI]at h;subst h;rfl
 | [],fn _,a,g,h,i=>by simp only[setFn,osI]at h;subst h;rfl
 | [],node ..,a,g,h,i=>by cases h
 | true::p,leaf,a,g,h,i=>by
  simp only[setFn]at h;cases b:setFn p leaf g with
  |none=>rw[b]at h;cases h
  |some l=>rw[b]at h;have h:some (node l none leaf)=some a:=h;cases h;show(node l none leaf).get (2*numF p i+1)=_;rw[cL];exact setFn_in b i
 | false::p,leaf,a,g,h,i=>by
  simp only[setFn]at h;cases b:setFn p leaf g with
  |none=>rw[b]at h;cases h
  |some r=>rw[b]at h;have h:some (node leaf none r)=some a:=h;cases h;show(node leaf none r).get (2*numF p i+2)=_;rw[cu];exact setFn_in b i
 | true::p,node l v r,a,g,h,i=>by
  simp only[setFn]at h;cases b:setFn p l g with
  |none=>rw[b]at h;cases h
  |some l2=>rw[b]at h;have h:some (node l2 v r)=some a:=h;cases h;show(node l2 v r).get (2*numF p i+1)=_;rw[cL];exact setFn_in b i
 | false::p,node l v r,a,g,h,i=>by
  simp only[setFn]at h;cases b:setFn p r g with
  |none=>rw[b]at h;cases h
  |some c=>rw[b]at h;have h:some (node l v c)=some a:=h;cases h;show(node l v c).get (2*numF p i+2)=_;rw[cu];exact setFn_in b i
 |true::p,fn _,a,g,h,i=>by cases h
 |false::p,fn _,a,g,h,i=>by cases h
theorem fA(k:Nat):k=0∨(∃j,k=2*j+1)∨∃ j,k=2*j+2:=by rcases Hg k 1 with h|h;exact .inl (by omega);rcases Nat.mod_two_eq_zero_or_one k with a|a;exact .inr (.inr ⟨k/2-1,by omega⟩);exact .inr (.inl ⟨k/2,by omega⟩)
theorem setFn_out:∀ {p:Li}{t b:T α}{g:Nat->Option α},setFn p t g=some b->∀ k,¬InF p k->b.get k=t.get k
 | [],t,b,g,h,k,hk=>absurd ⟨k,rfl⟩ hk
 |true::p,fn _,b,g,h,k,hk=>by cases h
 |false::p,fn _,b,g,h,k,hk=>by cases h
 | true::p,leaf,b,g,h,k,hk=>by
  simp only[setFn]at h;cases a:setFn p leaf g with
  |none=>rw[a]at h;cases h
  |some l=>rw[a]at h;have h:some (node l none leaf)=some b:=h;cases h;rcases fA k with rfl|⟨j,rfl⟩|⟨j,rfl⟩;rfl;rw[cL];exact setFn_out a j λ⟨i,e⟩=>hk ⟨i,by rw[e];rfl⟩;rw[cu];rfl
 | false::p,leaf,b,g,h,k,hk=>by
  simp only[setFn]at h;cases a:setFn p leaf g with
  |none=>rw[a]at h;cases h
  |some r=>rw[a]at h;have h:some (node leaf none r)=some b:=h;cases h;rcases fA k with rfl|⟨j,rfl⟩|⟨j,rfl⟩;rfl;rw[cL];rfl;rw[cu];exact setFn_out a j λ⟨i,e⟩=>hk ⟨i,by rw[e];rfl⟩
 | true::p,node l v r,b,g,h,k,hk=>by
  simp only[setFn]at h;cases a:setFn p l g with
  |none=>rw[a]at h;cases h
  |some l2=>rw[a]at h;have h:some (node l2 v r)=some b:=h;cases h;rcases fA k with rfl|⟨j,rfl⟩|⟨j,rfl⟩;rfl;rw[cL,cL];exact setFn_out a j λ⟨i,e⟩=>hk ⟨i,by rw[e];rfl⟩;rw[cu,cu]
 | false::p,node l v r,b,g,h,k,hk=>by
  simp only[setFn]at h;cases a:setFn p r g with
  |none=>rw[a]at h;cases h
  |some c=>rw[a]at h;have h:some (node l v c)=some b:=h;cases h;rcases fA k with rfl|⟨j,rfl⟩|⟨j,rfl⟩;rfl;rw[cL,cL];rw[cu,cu];exact setFn_out a j λ⟨i,e⟩=>hk ⟨i,by rw[e];rfl⟩
end T
structure Sig where
 f:Nat->Option (Nat×Nat×Nat)
 ro:Nat->Option Obj
 nl:Nat->Prop
instance:CoeFun Sig (λ_=>Nat->Option (Nat×Nat×Nat)):=⟨Sig.f⟩
structure Sig.sub (σ σ':Sig):Prop where
 f:∀ B x,σ B=some x->σ' B=some x
 ro:∀ b o,σ.ro b=some o->σ'.ro b=some o
def am(els:Lh):Lh:=els.flatMap λx=>x.cells.toList
def unk:Nat:=18446744073709551616
def gsz(m:Nat):Nat:=m%18446744073709551616-3
def Fn.still:Fn->Bool
 | .yield _=>false
 |_=>true
mutual
inductive VR (σ:Sig):Value->Value->Prop
 |bool (b:Bool):VR σ (.bool b) (.bool b)
 |int (k:IntKind) (n:Int):VR σ (.int k n) (.int k n)
 |float (k:FloatKind) (n:Nat):VR σ (.float k n) (.float k n)
 |complex (k:FloatKind) (m n:Nat):VR σ (.complex k m n) (.complex k m n)
 |string (s:ByteArray):VR σ (.string s) (.string s)
 |ptr0:VR σ (.pointer none) (.pointer none)
 |ptr {B b d c:Nat}(i:Nat) (h:σ B=some (b,d,c)):VR σ (.pointer (some ⟨B,i,none⟩)) (.pointer (some ⟨b,d+i,none⟩))
 |slice0 (n k:Nat):VR σ (.slice none n k) (.slice none n k)
 |slice {B b d c:Nat}(i n k:Nat) (h:σ B=some (b,d,c)) (hk:k<unk):VR σ (.slice (some ⟨B,i,none⟩) n k) (.slice (some ⟨b,d+i,none⟩) n k)
 |sliceU {B b d c:Nat}(n:Nat) (h:σ B=some (b,d,c)) (hn:n<=c):VR σ (.slice (some ⟨B,0,none⟩) n unk) (.slice (some ⟨b,d,none⟩) n c)
 |sliceV {B b d c:Nat}(i n k:Nat) (h:σ B=some (b,d,c)) (hn:n<=k):VR σ (.slice (some ⟨B,i,none⟩) n (unk+1)) (.slice (some ⟨b,d+i,none⟩) n k)
 |sliceE (a a':Addr) (k:Nat):VR σ (.slice (some a) 0 (unk+2)) (.slice (some a') 0 k)
 |gs0 (B o m:Nat) (a:Option Addr) (hm:unk+3<=m):VR σ (.slice (some ⟨B,o,none⟩) 0 m) (.slice a 0 0)
 |gs {B b d c:Nat}(lo o n k m:Nat) (h:σ B=some (b,d,c)) (hn:n<=k) (hc:lo+k<=c) (ho:o=lo*gsz m) (hm:unk+3<=m):VR σ (.slice (some ⟨B,o,none⟩) n m) (.slice (some ⟨b,d+o,none⟩) n k)
 |map0:VR σ (.map none) (.map none)
 |map {B b d c:Nat}(h:σ B=some (b,d,c)):VR σ (.map (some B)) (.map (some b))
 |chan0:VR σ (.chan none) (.chan none)
 |func (fn:Fn) {xs ys xs' ys':Lh}(hf:Fn.still fn=true) (hx:VRs σ xs xs') (hy:VRs σ ys ys'):VR σ (.func fn ⟨xs⟩ ⟨ys⟩) (.func fn ⟨xs'⟩ ⟨ys'⟩)
 |func0:VR σ .nilFunc .nilFunc
 |iface (t:TypeId) {v v':Value}(h:VR σ v v'):VR σ (.iface t v) (.iface t v')
 |iface0:VR σ .nilIface .nilIface
 |agg {xs xs':Lh}(h:VRs σ xs xs'):VR σ (.agg ⟨xs⟩) (.agg ⟨xs'⟩)
 |tuple {xs xs':Lh}(h:VRs σ xs xs'):VR σ (.tuple ⟨xs⟩) (.tuple ⟨xs'⟩)
 |dat {b o k sz:Nat}{e:TypeId}{fz:Nat×Nat}{c:Array Value}{els:Lh}(hro:σ.ro b=some (.cells c e fz)) (hsz:∀ x∈els,x.cells.size=sz) (hk:els.length<=k) (h:VRs σ (am els) ((c.toList.drop o).take (els.length*sz))):VR σ (.func (.yield sz) ⟨els⟩ ⟨[]⟩) (.slice (some ⟨b,o,none⟩) els.length k)
 |datN (sz:Nat):VR σ (.func (.yield sz) ⟨[]⟩ ⟨[]⟩) (.slice none 0 0)
 |datE (sz:Nat) (a:Addr) (k:Nat):VR σ (.func (.yield sz) ⟨[]⟩ ⟨[]⟩) (.slice (some a) 0 k)
 |gp {B b d c:Nat}(sz i j:Nat) (h:σ B=some (b,d,c)):VR σ (.func (.yield sz) ⟨[.pointer (some ⟨B,0,none⟩)]⟩ ⟨[.int .i64 i,.int .i64 j,.bool true]⟩) (.pointer (some ⟨b,d+i*sz+j,none⟩))
 |datP {b o sz i j:Nat}{e:TypeId}{fz:Nat×Nat}{c:Array Value}{els:Lh}(hro:σ.ro b=some (.cells c e fz)) (hsz:∀ x∈els,x.cells.size=sz) (hi:i<els.length) (hj:j<sz) (h:VRs σ (am els) ((c.toList.drop o).take (els.length*sz))):VR σ (.func (.yield sz) ⟨els⟩ ⟨[.int .i64 i,.int .i64 j]⟩) (.pointer (some ⟨b,o+i*sz+j,none⟩))
inductive VRs (σ:Sig):Lh->Lh->Prop
 |nil:VRs σ [] []
 |cons {v v':Value}{l l':Lh}(h:VR σ v v') (t:VRs σ l l'):VRs σ (v::l) (v'::l')
end
variable {σ:Sig}{v v':Value}
theorem VR.mono{σ':Sig}(a:σ.sub σ')(h:VR σ v v'):VR σ' v v':=
 VR.rec (motive_1:=λv v' _=>VR σ' v v') (motive_2:=λl q _=>VRs σ' l q)
  VR.bool VR.int VR.float VR.complex VR.string VR.ptr0 (λi h=>.ptr i (a.f _ _ h)) VR.slice0 (λi n k h e=>.slice i n k (a.f _ _ h) e)
  (λn h d=>.sliceU n (a.f _ _ h) d) (λi n k h d=>.sliceV i n k (a.f _ _ h) d) VR.sliceE VR.gs0 (λp o n k m h d A u w=>.gs p o n k m (a.f _ _ h) d A u w) VR.map0 (λh=>.map (a.f _ _ h)) VR.chan0
  (λB _ _ _ _ z _ _ s r=>.func B z s r) VR.func0 (λt _ _ _ h=>.iface t h) VR.iface0 (λ_ h=>.agg h) (λ_ h=>.tuple h)
  (λc b e _ h=>.dat (a.ro _ _ c) b e h) VR.datN VR.datE (λg i j h=>.gp g i j (a.f _ _ h)) (λc b y x _ h=>.datP (a.ro _ _ c) b y x h)
  VRs.nil (λ_ _ h t=>.cons h t) h
theorem VRs.mono{σ':Sig}(a:σ.sub σ'):∀ {l l':Lh},VRs σ l l'->VRs σ' l l'
 |_,_,.nil=>.nil
 |_,_,.cons h t=>.cons (h.mono a) (t.mono a)
theorem VRs.length:∀ {l l':Lh},VRs σ l l'->l'.length=l.length
 |_,_,.nil=>rfl
 |_,_,.cons _ t=>by simp[t.length]
theorem VRs.get:∀ {l l':Lh},VRs σ l l'->∀ {i:Nat}{v:Value},l[i]? =some v->∃ v',l'[i]? =some v'/\VR σ v v'
 |_,_,.nil,i,v,h=>by simp at h
 | _,_,.cons hv t,i,v,h=>by
  cases i with
  |zero=>simp at h;subst h;exact⟨_,by simp,hv⟩
  |succ i=>simp at h;obtain⟨v',b,a⟩:=t.get h;exact⟨v',by simpa using b,a⟩
theorem VRs.of_get:∀ {l l':Lh},l'.length=l.length->(∀(i:Nat) v,l[i]? =some v->∃ v',l'[i]? =some v'/\VR σ v v')->VRs σ l l'
 | [],[],_,_=>.nil
 | [],_::_,h,_=>by simp at h
 |_::_,[],h,_=>by simp at h
 |v::l,v'::l',hl,h=>by obtain⟨u,a,b⟩:=h 0 v (by simp);simp at a;subst a;refine .cons b (VRs.of_get (by simpa using hl) λi x c=>?_);obtain⟨u,a,b⟩:=h (i+1) x (by simpa using c);exact⟨u,by simpa using a,b⟩
theorem VRs.append:∀ {l l' m a:Lh},VRs σ l l'->VRs σ m a->VRs σ (l++m) (l'++a)
 |_,_,_,_,.nil,h=>h
 |_,_,_,_,.cons hv t,h=>.cons hv (t.append h)
theorem VRs.take:∀ {l l':Lh}(n:Nat),VRs σ l l'->VRs σ (l.take n) (l'.take n)
 |_,_,0,_=>by simpa using VRs.nil
 |_,_,_+1,.nil=>.nil
 |_,_,n+1,.cons hv t=>.cons hv (t.take n)
theorem VRs.drop:∀ {l l':Lh}(n:Nat),VRs σ l l'->VRs σ (l.drop n) (l'.drop n)
 |_,_,0,h=>h
 |_,_,_+1,.nil=>.nil
 |_,_,n+1,.cons _ t=>t.drop n
theorem VRs.set:∀ {l l':Lh}(n:Nat) {v v':Value},VRs σ l l'->VR σ v v'->VRs σ (l.set n v) (l'.set n v')
 |_,_,_,_,_,.nil,_=>.nil
 |_,_,0,_,_,.cons _ t,h=>.cons h t
 |_,_,n+1,_,_,.cons hv t,h=>.cons hv (t.set n h)
def scal:Value->Bool
 | .bool _| .int .. | .float .. | .complex .. | .string _| .pointer none| .slice none _ _| .map none| .chan none| .nilFunc| .nilIface=>true
 |_=>false
theorem mf(a:scal v=true)(h:VR σ v v'):v'=v:=by cases h<;>first|rfl|simp[scal]at a
theorem eP(b:scal v=true)(σ:Sig):VR σ v v:=by
 cases v with
 |bool=>exact .bool _
 |int=>exact .int _ _
 |float=>exact .float _ _
 |complex=>exact .complex _ _ _
 |string=>exact .string _
 |pointer a=>cases a with|none=>exact .ptr0|some a=>simp[scal]at b
 |slice a n k=>cases a with|none=>exact .slice0 _ _|some a=>simp[scal]at b
 |map a=>cases a with|none=>exact .map0|some a=>simp[scal]at b
 |chan a=>cases a with|none=>exact .chan0|some a=>simp[scal]at b
 |nilFunc=>exact .func0
 |nilIface=>exact .iface0
 |func=>simp[scal]at b
 |iface=>simp[scal]at b
 |agg=>simp[scal]at b
 |tuple=>simp[scal]at b
theorem jd{σ:Sig}:∀ {l l':Lh},l.all scal=true->VRs σ l l'->l'=l
 |_,_,_,.nil=>rfl
 |_,_,hs,.cons h t=>by simp only[I3,f']at hs;rw[mf hs.1 h,jd hs.2 t]
theorem bu:∀ {l:Lh},l.all scal=true->∀ σ:Sig,VRs σ l l
 | [],_,_=>.nil
 |v::l,hs,σ=>by simp only[I3,f']at hs;exact .cons (eP hs.1 σ) (bu hs.2 σ)
def flat:Value->Bool
 | .agg ⟨cs⟩=>cs.all scal
 |v=>scal v
theorem cZ(a:flat v=true)(h:VR σ v v'):v'=v:=by
 cases h<;>first|rfl|(simp[flat,scal]at a;done)|skip
 case agg xs xs' h=>rw[jd a h]
theorem bI(a:flat v=true)(σ:Sig):VR σ v v:=by
 cases v with
 |agg b=>obtain⟨b⟩:=b;exact .agg (bu a σ)
 |_=>exact eP (by simpa[flat]using a) σ
theorem VR.cells(h:VR σ v v'):VRs σ v.cells.toList v'.cells.toList:=by
 cases h with
 |agg h=>exact h
 |bool=>exact .cons (.bool _) .nil
 |int=>exact .cons (.int _ _) .nil
 |float=>exact .cons (.float _ _) .nil
 |complex=>exact .cons (.complex _ _ _) .nil
 |string=>exact .cons (.string _) .nil
 |ptr0=>exact .cons .ptr0 .nil
 |ptr i h=>exact .cons (.ptr i h) .nil
 |slice0=>exact .cons (.slice0 _ _) .nil
 |slice i n k h u=>exact .cons (.slice i n k h u) .nil
 |sliceU n h f=>exact .cons (.sliceU n h f) .nil
 |sliceV i n k h f=>exact .cons (.sliceV i n k h f) .nil
 |sliceE a z k=>exact .cons (.sliceE a z k) .nil
 |gs0 B o m a g=>exact .cons (.gs0 B o m a g) .nil
 |gs p o n k m h f x s g=>exact .cons (.gs p o n k m h f x s g) .nil
 |map0=>exact .cons .map0 .nil
 |map h=>exact .cons (.map h) .nil
 |chan0=>exact .cons .chan0 .nil
 |func y w r q=>exact .cons (.func y w r q) .nil
 |func0=>exact .cons .func0 .nil
 |iface t h=>exact .cons (.iface t h) .nil
 |iface0=>exact .cons .iface0 .nil
 |tuple h=>exact .cons (.tuple h) .nil
 |dat a b c d=>exact .cons (.dat a b c d) .nil
 |datN n=>exact .cons (.datN n) .nil
 |datE n a k=>exact .cons (.datE n a k) .nil
 |gp l i j h=>exact .cons (.gp l i j h) .nil
 |datP a b c d e=>exact .cons (.datP a b c d e) .nil
end Go.AM
namespace Go.AM
noncomputable section
abbrev _root_.Go.IH:=@Bool.not_eq_true'
abbrev _root_.Go.GK:=@Nat.le_refl
abbrev _root_.Go.Jb:=@Iff.rfl
abbrev _root_.Go.HN:=@Nat.lt_of_lt_of_le
abbrev _root_.Go.IK:=@Nat.le_trans
abbrev _root_.Go.Jj:=@Nat.le_of_not_lt
abbrev _root_.Go.He:=@Array.getElem?_eq_none
abbrev _root_.Go.JS:=@Array.getElem?_push
abbrev _root_.Go.Hp:=@Go.AM.T.get_set
abbrev _root_.Go.I1:=@Nat.le_succ
abbrev _root_.Go.IC:=@Nat.lt_succ_self
abbrev _root_.Go.C':=@cond_true
abbrev _root_.Go.GZ:=@List.getElem?_take
abbrev _root_.Go.GV:=@List.getElem?_drop
abbrev _root_.Go.Hs:=@Nat.add_assoc
abbrev _root_.Go.I7:=@Go.run_loadCells_list
abbrev _root_.Go.Gy:=@Nat.eq_of_beq_eq_true
abbrev _root_.Go.GI:=@List.mem_cons
abbrev _root_.Go.HT:=@List.append_assoc
abbrev _root_.Go.G0:=@List.getElem?_append
abbrev _root_.Go.JJ:=@Array.getElem?_modify
abbrev _root_.Go.GN:=@Go.Sem.run_bind
abbrev _root_.Go.HO:=@Bool.false_eq_true
abbrev _root_.Go.GJ:=@Go.Result.andThen_ok
abbrev _root_.Go.II:=@List.ext_getElem?
abbrev _root_.Go.Jo:=@Array.toList_setIfInBounds
abbrev _root_.Go.Hq:=@List.getElem?_set
abbrev _root_.Go.GY:=@List.length_cons
abbrev _root_.Go.Ic:=@List.getElem?_cons_succ
variable {B b c cp d i n nx:Nat}{ob:Obj}{P:Program}{σ σ':Sig}{v:Value}{w w':World}
inductive AObj where
 |cells (c:Lh) (elem:TypeId)
 |ro (c:Lh) (elem:TypeId)
 |map (es:Lc) (clock:Nat)
 |siter (s:ByteArray) (pos:Nat)
 |gro (els tl:Lh) (elem:TypeId)
 |arr (els rest:Lh) (n:Nat) (elem:TypeId)
 |dead
def AObj.own:AObj->Bool
 | .cells .. | .map .. | .siter .. | .gro .. | .arr .. =>true
 |_=>false
def AObj.nilOk:AObj->Bool
 | .gro .. =>true
 |_=>false
def AObj.here:AObj->Bool
 | .dead=>false
 |_=>true
theorem AObj.here_of_own{o:AObj}(h:o.own=true):o.here=true:=by cases o<;>simp_all [AObj.own,AObj.here]
structure AH where
 t:T AObj
 next:Nat
def ER(σ:Sig)(x:Value×Value×Nat)(e:MapEntry):Prop:=e.key=x.1/\VR σ x.2.1 e.val/\e.born=x.2.2
inductive ERs (σ:Sig):Lc->List MapEntry->Prop
 |nil:ERs σ [] []
 |cons {x:Value×Value×Nat}{e:MapEntry}{l:Lc}{l':List MapEntry}(h:ER σ x e) (t:ERs σ l l'):ERs σ (x::l) (e::l')
theorem ERs.mono(a:σ.sub σ'):∀ {l l'},ERs σ l l'->ERs σ' l l'
 |_,_,.nil=>.nil
 |_,_,.cons h t=>.cons ⟨h.1,h.2.1.mono a,h.2.2⟩ (t.mono a)
def OR(P:Program)(σ:Sig)(ob:Option Obj)(d cp:Nat):AObj->Prop
 | .cells c e=>∃ c' lo hi,ob=some (.cells c' e (lo,hi))/\(∀i,i<c'.size->¬ (lo<=i/\i<hi))/\(∀(i:Nat) v,c[i]? =some v->∃ v',c'[d+i]? =some v'/\VR σ v v')/\d+cp*P.cellsOf e<=c'.size/\d=0
 | .ro c e=>∃ c' fz,ob=some (.cells c' e fz)/\(∀(i:Nat) v,c[i]? =some v->∃ v',c'[d+i]? =some v'/\VR σ v v')
 | .map es k=>∃ es',ob=some (.map es' k)/\ERs σ es es'.toList
 | .siter s p=>ob=some (.stringIter s p)/\d=0
 | .gro els tl e=>∃ c' lo hi,ob=some (.cells c' e (lo,hi))/\(∀i,i<c'.size->¬ (lo<=i/\i<hi))/\(∀(i:Nat) v,(am (els++tl))[i]? =some v->∃ v',c'[d+i]? =some v'/\VR σ v v')/\(∀x∈els++tl,x.cells.size=P.cellsOf e)/\d+cp*P.cellsOf e<=c'.size/\(els++tl).length<=cp
 | .arr els rest n e=>(∃c' lo hi,ob=some (.cells c' e (lo,hi))/\(∀i,i<c'.size->¬ (lo<=i/\i<hi))/\(∀(i:Nat) v,(els++rest)[i]? =some v->∃ v',c'[d+i]? =some v'/\VR σ v v')/\d+cp*P.cellsOf e<=c'.size/\d=0)/\els.length=n
 | .dead=>True
def glue(els tl:Lh):Lh:=match tl with
 | []=>els
 |_=>els++tl
theorem cb(els tl:Lh):glue els tl=els++tl:=by cases tl<;>simp[glue]
theorem OR.mono(r:σ.sub σ'){ob:Option Obj}{o:AObj}(h:OR P σ ob d cp o):OR P σ' ob d cp o:=by
 cases o with
 |cells c e=>obtain⟨m,q,t,f,l,j,u⟩:=h;exact⟨m,q,t,f,l,λi v g=>let ⟨v',a,b⟩:=j i v g;⟨v',a,b.mono r⟩,u⟩
 |ro c e=>obtain⟨m,C,f,j⟩:=h;exact⟨m,C,f,λi v g=>let ⟨v',a,b⟩:=j i v g;⟨v',a,b.mono r⟩⟩
 |map E k=>obtain⟨x,f,l⟩:=h;exact⟨x,f,l.mono r⟩
 |siter s p=>exact h
 |gro y D e=>obtain⟨m,q,t,f,l,j,u⟩:=h;exact⟨m,q,t,f,l,λi v g=>let ⟨v',a,b⟩:=j i v g;⟨v',a,b.mono r⟩,u⟩
 |arr y z n e=>obtain⟨⟨m,q,t,f,l,j,u⟩,A⟩:=h;exact⟨⟨m,q,t,f,l,λi v g=>let ⟨v',a,b⟩:=j i v g;⟨v',a,b.mono r⟩,u⟩,A⟩
 |dead=>exact h
structure RelG (P:Program) (σ:Sig) (g:Nat->Option AObj) (nx:Nat) (w:World):Prop where
 obj0:∀ B o,g B=some o->o.here=true->(∃b d c,σ B=some (b,d,c)/\OR P σ w.heap[b]? d c o)∨(o.nilOk=true/\σ.nl B)
 inj:∀ B B' o o' x x',g B=some o->g B'=some o'->o.own=true->o'.here=true->B≠B'->σ B=some x->σ B'=some x'->x.1≠x'.1
 lt:∀ B x,σ B=some x->x.1<w.heap.size
 fresh:∀ B,nx<=B->σ B=none
 ro:∀ b o,σ.ro b=some o->w.heap[b]? =some o
 sep:∀ B o x,g B=some o->o.own=true->σ B=some x->σ.ro x.1=none
 nl:∀ B,σ.nl B->B<nx/\σ B=none
abbrev Rel(P:Program)(σ:Sig)(A:AH)(w:World):Prop:=RelG P σ A.t.get A.next w
theorem RelG.obj{g:Nat->Option AObj}(R:RelG P σ g nx w)(B:Nat)(o:AObj)(h:g B=some o)(a:(o.here&& !o.nilOk)=true):∃ b d c,σ B=some (b,d,c)/\OR P σ w.heap[b]? d c o:=by simp only[f',IH]at a;rcases R.obj0 B o h a.1 with f|⟨e,_⟩;exact f;rw[a.2]at e;cases e
theorem RelG.at{P:Program}{σ:Sig}{g:Nat->Option AObj}{nx:Nat}{w:World}(R:RelG P σ g nx w){B:Nat}{o:AObj}{b d c:Nat}(h:g B=some o)(f:o.here=true)(e:σ B=some (b,d,c)):OR P σ w.heap[b]? d c o:=by rcases R.obj0 B o h f with⟨m,k,l,a,j⟩|⟨_,a⟩;rw[e]at a;cases a;exact j;have a:=(R.nl B a).2;rw[e]at a;cases a
structure ExtG (σ:Sig) (g:Nat->Option AObj) (nx:Nat) (w:World) (σ':Sig) (g':Nat->Option AObj) (nx':Nat) (w':World):Prop where
 sig:∀ B,B<nx->σ' B=σ B
 next:nx<=nx'
 size:w.heap.size<=w'.heap.size
 frame:∀ b,b<w.heap.size->(∀B o x,g B=some o->o.own=true->σ B=some x->x.1≠b)->w'.heap[b]? =w.heap[b]?
 orig:∀ B o x,g' B=some o->o.own=true->σ' B=some x->w.heap.size<=x.1∨∃ B0 o0 x0,g B0=some o0/\o0.own=true/\σ B0=some x0/\x0.1=x.1
 orig2:∀ B o x,g' B=some o->o.here=true->σ' B=some x->w.heap.size<=x.1∨∃ B0 o0 x0,g B0=some o0/\o0.here=true/\σ B0=some x0/\x0.1=x.1
 os:w'.os=w.os
 tape:w'.tape=w.tape
 output:w'.output=w.output
 sro:∀ b o,σ.ro b=some o->σ'.ro b=some o
 rog:∀ b o,σ'.ro b=some o->σ.ro b=some o∨w.heap.size<=b∨∃ B0 o0 x0,g B0=some o0/\o0.own=true/\σ B0=some x0/\x0.1=b
 snl:∀ B,B<nx->(σ'.nl B↔σ.nl B)
abbrev Ext(σ:Sig)(A:AH)(w:World)(σ':Sig)(A':AH)(w':World):Prop:=ExtG σ A.t.get A.next w σ' A'.t.get A'.next w'
theorem ExtG.refl(σ:Sig)(g:Nat->Option AObj)(nx:Nat)(w:World):ExtG σ g nx w σ g nx w:=
 ⟨λ_ _=>rfl,GK _,GK _,λ_ _ _=>rfl,λB o x f e a=>.inr ⟨B,o,x,f,e,a,rfl⟩,λB o x f e a=>.inr ⟨B,o,x,f,e,a,rfl⟩,rfl,rfl,rfl,λ_ _ h=>h,λ_ _ h=>.inl h,λ_ _=>Jb⟩
theorem Ext.refl(σ:Sig)(A:AH)(w:World):Ext σ A w σ A w:=ExtG.refl _ _ _ _
theorem ExtG.trans{u t:Sig}{g l j:Nat->Option AObj}{L K:Nat}{J I:World}(h:ExtG σ g n w u l L J)(k:ExtG u l L J t j K I):ExtG σ g n w t j K I where
 sig B hB:=(k.sig B (HN hB h.next)).trans (h.sig B hB)
 next:=IK h.next k.next
 size:=IK h.size k.size
 frame b hb hn:=by refine(k.frame b (HN hb h.size) λB o x m C A e=>?_).trans (h.frame b hb hn);rcases h.orig B o x m C A with a|⟨s,q,p,l,j,r,f⟩;omega;exact hn s q p l j r (f.trans e)
 orig B o x m C A:=by rcases k.orig B o x m C A with a|⟨s,q,p,l,j,r,f⟩;exact .inl (IK h.size a);rcases h.orig s q p l j r with a|⟨H,z,y,G,F,E,D⟩;exact .inl (f▸a);exact .inr ⟨H,z,y,G,F,E,D.trans f⟩
 orig2 B o x m C A:=by rcases k.orig2 B o x m C A with a|⟨s,q,p,l,j,r,f⟩;exact .inl (IK h.size a);rcases h.orig2 s q p l j r with a|⟨H,z,y,G,F,E,D⟩;exact .inl (f▸a);exact .inr ⟨H,z,y,G,F,E,D.trans f⟩
 os:=k.os.trans h.os
 tape:=k.tape.trans h.tape
 output:=k.output.trans h.output
 sro b o hb:=k.sro b o (h.sro b o hb)
 rog b o hb:=by rcases k.rog b o hb with m|m|⟨s,q,p,l,j,r,f⟩;exact h.rog b o m;exact .inr (.inl (IK h.size m));rcases h.orig s q p l j r with a|⟨H,z,y,G,F,E,D⟩;exact .inr (.inl (f▸a));exact .inr (.inr ⟨H,z,y,G,F,E,D.trans f⟩)
 snl B hB:=(k.snl B (HN hB h.next)).trans (h.snl B hB)
theorem Ext.trans{e a:Sig}{A A1 j:AH}{g f:World}(h:Ext σ A w e A1 g)(k:Ext e A1 g a j f):Ext σ A w a j f:=ExtG.trans h k
theorem ExtG.sub{g j:Nat->Option AObj}{f:Nat}(R:RelG P σ g n w)(h:ExtG σ g n w σ' j f w'):σ.sub σ':=by refine⟨λB x a=>?_,h.sro⟩;by_cases e:B<n;rw[h.sig B e];exact a;rw[R.fresh B (Jj e)]at a;cases a
theorem Ext.sub{A A':AH}(R:Rel P σ A w)(h:Ext σ A w σ' A' w'):σ.sub σ':=ExtG.sub R h
theorem RelG.drew{g:Nat->Option AObj}(R:RelG P σ g n w)(h:w'.heap=w.heap):RelG P σ g n w' where
 obj0 B o h1 h2:=by rw[h];exact R.obj0 B o h1 h2
 inj:=R.inj
 lt B x hx:=by rw[h];exact R.lt B x hx
 fresh:=R.fresh
 ro b o hb:=by rw[h];exact R.ro b o hb
 sep:=R.sep
 nl:=R.nl
theorem Rel.drew{A:AH}(R:Rel P σ A w)(h:w'.heap=w.heap):Rel P σ A w':=RelG.drew R h
theorem ExtG.drew{g:Nat->Option AObj}(h:w'.heap=w.heap)(l:w'.os=w.os)(j:w'.tape=w.tape)(k:w'.output=w.output):ExtG σ g n w σ g n w':=
 ⟨λ_ _=>rfl,GK _,by rw[h];exact GK _,λ_ _ _=>by rw[h],λB o x f e a=>.inr ⟨B,o,x,f,e,a,rfl⟩,λB o x f e a=>.inr ⟨B,o,x,f,e,a,rfl⟩,l,j,k,λ_ _ h=>h,λ_ _ h=>.inl h,λ_ _=>Jb⟩
theorem RelG.fewer{g j:Nat->Option AObj}{e:Nat}(R:RelG P σ g n w)(a:∀ B o,j B=some o->o.here=true->g B=some o)(k:∀ B,e<=B->σ B=none)(f:∀ B,σ.nl B->B<e):RelG P σ j e w where
 obj0 B o h1 h2:=R.obj0 B o (a B o h1 h2) h2
 inj B B' o o' x x' h1 h2 h3 h4:=R.inj B B' o o' x x' (a B o h1 (AObj.here_of_own h3)) (a B' o' h2 h4) h3 h4
 lt:=R.lt
 fresh:=k
 ro:=R.ro
 sep B o x h1 h2:=R.sep B o x (a B o h1 (AObj.here_of_own h2)) h2
 nl B h:=⟨f B h,(R.nl B h).2⟩
def upd(σ:Sig)(id:Nat)(x:Nat×Nat×Nat):Sig:=⟨λB=>if B=id then some x else σ B,σ.ro,σ.nl⟩
theorem ch{id:Nat}{x:Nat×Nat×Nat}(h:σ id=none):σ.sub (upd σ id x):=by refine⟨λB y a=>?_,λ_ _ h=>h⟩;unfold upd;simp only;split;subst_vars;rw[h]at a;cases a;exact a
theorem bF{id:Nat}{x:Nat×Nat×Nat}:upd σ id x id=some x:=by simp[upd]
theorem RelG.alloc{g I:Nat->Option AObj}(R:RelG P σ g n w){id:Nat}{o:AObj}
 (F:∀ B,I B=if B=id then some o else g B) (E:σ id=none) (s:¬ σ.nl id) (U:id<nx) (S:n<=nx)
 (A:OR P (upd σ id (w.heap.size,0,cp)) (some ob) 0 cp o) (u:w'.heap=w.heap.push ob):
 RelG P (upd σ id (w.heap.size,0,cp)) I nx w':=by
 have l:σ.sub (upd σ id (w.heap.size,0,cp)):=ch E;refine⟨?_,?_,?_,?_,λb o Q=>?_,λB p x k C a=>?_,λB k=>?_⟩;rotate_left 6;obtain⟨L,K⟩:=R.nl B k;refine⟨HN L S,?_⟩;show(if B=id then _ else σ B)=none;rw[D' (λe:B=id=>s (e▸k))];exact K;rotate_left 4;have:=R.ro b o Q;have r:b<w.heap.size:=by rcases Hg b w.heap.size with h|h;exact h;rw[He h]at this;cases this
 rw[u,JS,D' (by omega)];exact this;simp only[F]at k;unfold upd at a;simp only at a;show σ.ro x.1=none;by_cases e:B=id;rw[Gw e]at a;cases a;cases M:σ.ro w.heap.size with
 |none=>rfl
 |some H=>have:=R.ro _ _ M;simp at this
 rw[D' e]at a k;exact R.sep B p x k C a;intro B p k O;simp only[F]at k;by_cases e:B=id;subst e;simp only[Ie,osI]at k;subst k;refine .inl ⟨w.heap.size,0,cp,bF,?_⟩;rw[u,Array.getElem?_push_size];exact A;· rw[D' e]at k;rcases R.obj0 B p k O with⟨b,d,c,y,G⟩|⟨y,G⟩;rotate_left;exact .inr ⟨y,G⟩;refine .inl ⟨b,d,c,l.f _ _ y,?_⟩;have r:=R.lt B _ y;rw[u,JS,D' (by simp at r;omega)];exact G.mono l
 intro B z p H x J k m N D q a j;simp only[F]at k m;unfold upd at a j;simp only at a j;by_cases e:B=id;rw[Gw e]at a;by_cases t:z=id;exact absurd (e.trans t.symm) q;rw[D' t]at j;have:=R.lt z _ j;cases a;simp only;omega;rw[D' e]at a k;by_cases t:z=id;rw[Gw t]at j;have:=R.lt B _ a;cases j;simp only;omega;rw[D' t]at j m;exact R.inj B z p H x J k m N D q a j;intro B x a;unfold upd at a;simp only at a;rw[u,Array.size_push];by_cases e:B=id;rw[Gw e]at a;cases a;simp;rw[D' e]at a;have:=R.lt B x a;omega;intro B k;unfold upd;simp only;rw[D' (by omega)];exact R.fresh B (by omega)
theorem Rel.alloc{A:AH}(R:Rel P σ A w){f:Nat}{o:AObj}{t:T AObj}
 (a:T.set f A.t A.next o=some t) (g:σ A.next=none) (l:A.next<nx) (k:A.next<=nx)
 (e:OR P (upd σ A.next (w.heap.size,0,cp)) (some ob) 0 cp o) (j:w'.heap=w.heap.push ob):
 Rel P (upd σ A.next (w.heap.size,0,cp)) ⟨t,nx⟩ w':=RelG.alloc R (Hp a) g (λh=>Nat.lt_irrefl _ (R.nl _ h).1) l k e j
theorem ExtG.allocAt{g p:Nat->Option AObj}{j id:Nat}(R:RelG P σ g n w){o:AObj}
 (u:∀ B,p B=if B=id then some o else g B) (y:j<=n) (m:j<=id) (l:w'.heap=w.heap.push ob)
 (t:w'.os=w.os) (r:w'.tape=w.tape) (s:w'.output=w.output):
 ExtG σ g j w (upd σ id (w.heap.size,0,cp)) p n w':=by refine⟨?_,y,?_,?_,?_,?_,t,r,s,λ_ _ h=>h,λ_ _ h=>.inl h,λ_ _=>Jb⟩;intro B f;unfold upd;simp only;rw[D' (by omega)];rw[l,Array.size_push];omega;intro b z _;rw[l,JS,D' (by omega)];all_goals intro B q x f k a;simp only[u]at f;unfold upd at a;simp only at a;by_cases e:B=id;rw[Gw e]at a;cases a;exact .inl (GK _);rw[D' e]at a f;exact .inr ⟨B,q,x,f,k,a,rfl⟩
theorem Ext.alloc{A:AH}(R:Rel P σ A w){f:Nat}{o:AObj}{t:T AObj}
 (a:T.set f A.t A.next o=some t) (l:A.next<=nx) (k:w'.heap=w.heap.push ob)
 (j:w'.os=w.os) (e:w'.tape=w.tape) (g:w'.output=w.output):
 Ext σ A w (upd σ A.next (w.heap.size,0,cp)) ⟨t,nx⟩ w':=by have h:=ExtG.allocAt (cp:=cp) R (Hp a) (GK _) (GK _) k j e g;exact⟨h.sig,l,h.size,h.frame,h.orig,h.orig2,j,e,g,h.sro,h.rog,h.snl⟩
theorem Rel.upd{A:AH}(R:Rel P σ A w){f:Nat}{o o2:AObj}{t:T AObj}
 (C:A.t.get B=some o) (y:o.own=true) (l:σ B=some (b,d,c)) (u:T.set f A.t B o2=some t) (O:o2.own=true)
 (N:w'.heap.size=w.heap.size) (I:∀ r,r≠b->w'.heap[r]? =w.heap[r]?) (F:OR P σ w'.heap[b]? d c o2):Rel P σ ⟨t,A.next⟩ w':=by
 have G:=Hp u;refine⟨?_,?_,?_,R.fresh,λr M p=>?_,λg s x a j k=>?_,R.nl⟩;rotate_left 3;rw[I r (λe=>by have:=R.sep B o _ C y l;simp only at this;rw[e,this]at p;cases p)];exact R.ro r M p;simp only[G]at a;by_cases e:g=B;subst e;exact R.sep g o x C y k;rw[D' e]at a;exact R.sep g s x a j k;intro g s a J;simp only[G]at a;by_cases e:g=B;subst e;simp only[Ie,osI]at a;subst a;exact .inl ⟨b,d,c,l,F⟩;· rw[D' e]at a;rcases R.obj0 g s a J with⟨K,Q,S,E,H⟩|⟨E,H⟩;rotate_left;exact .inr ⟨E,H⟩;refine .inl ⟨K,Q,S,E,?_⟩;rw[I K (λx=>R.inj B g o s _ _ C a y J (λq=>e q.symm) l E x.symm)];exact H
 intro g U s L x V a D j z h k m;simp only[G]at a D;by_cases e:g=B;subst e;rw[D' (λq=>h q.symm)]at D;exact R.inj _ _ _ _ _ _ C D y z h k m;rw[D' e]at a;by_cases q:U=B;subst q;exact R.inj _ _ _ _ _ _ a C j (AObj.here_of_own y) h k m;rw[D' q]at D;exact R.inj _ _ _ _ _ _ a D j z h k m;intro g x k;rw[N];exact R.lt g x k
theorem Ext.upd{A:AH}{f:Nat}{o o2:AObj}{t:T AObj}
 (r:A.t.get B=some o) (q:o.own=true) (p:σ B=some (b,d,c)) (j:T.set f A.t B o2=some t)
 (z:w'.heap.size=w.heap.size) (y:∀ l,l≠b->w'.heap[l]? =w.heap[l]?) (F:w'.os=w.os) (E:w'.tape=w.tape) (D:w'.output=w.output):
 Ext σ A w σ ⟨t,A.next⟩ w':=by have u:=Hp j;refine⟨λ_ _=>rfl,GK _,by rw[z];exact GK _,?_,?_,?_,F,E,D,λ_ _ h=>h,λ_ _ h=>.inl h,λ_ _=>Jb⟩;intro l _ C;exact y l (λe=>C B o _ r q p e.symm);intro g m x a s k;simp only[u]at a;by_cases e:g=B;subst e;exact .inr ⟨g,o,x,r,q,k,rfl⟩;rw[D' e]at a;exact .inr ⟨g,m,x,a,s,k,rfl⟩;intro g m x a s k;simp only[u]at a;by_cases e:g=B;subst e;exact .inr ⟨g,o,x,r,AObj.here_of_own q,k,rfl⟩;rw[D' e]at a;exact .inr ⟨g,m,x,a,s,k,rfl⟩
theorem Rel.dead{A:AH}(R:Rel P σ A w){f:Nat}{t:T AObj}(a:T.set f A.t B .dead=some t):Rel P σ ⟨t,A.next⟩ w:=by have j:=Hp a;refine RelG.fewer R (λk o h g=>?_) R.fresh (λB h=>(R.nl B h).1);simp only[j]at h;by_cases e:k=B;rw[Gw e]at h;cases h;simp[AObj.here]at g;rwa[D' e]at h
theorem Ext.dead{A:AH}{f:Nat}{t:T AObj}(a:T.set f A.t B .dead=some t):Ext σ A w σ ⟨t,A.next⟩ w:=by have l:=Hp a;refine⟨λ_ _=>rfl,GK _,GK _,λ_ _ _=>rfl,?_,?_,rfl,rfl,rfl,λ_ _ h=>h,λ_ _ h=>.inl h,λ_ _=>Jb⟩;all_goals intro k o x g j m;simp only[l]at g;by_cases e:k=B;rw[Gw e]at g;cases g;simp[AObj.own,AObj.here]at j;rw[D' e]at g;exact .inr ⟨k,o,x,g,j,m,rfl⟩
theorem Rel.move{A:AH}(R:Rel P σ A w){f d2 c2:Nat}{o o2:AObj}{t X:T AObj}
 (L:A.t.get B=some o) (I:o.own=true) (k:σ B=some (b,d,c)) (H:T.set f A.t B .dead=some t) (C:T.set f t A.next o2=some X) (a0:o2.own=true)
 (s:w'.heap.size=w.heap.size) (Z:∀ E,E≠b->w'.heap[E]? =w.heap[E]?) (Q:OR P (AM.upd σ A.next (b,d2,c2)) w'.heap[b]? d2 c2 o2):
 Rel P (AM.upd σ A.next (b,d2,c2)) ⟨X,A.next+1⟩ w':=by
 have U:=Hp H;have D:=Hp C;have K:σ A.next=none:=R.fresh _ (GK _)
 have y:σ.sub (AM.upd σ A.next (b,d2,c2)):=ch K;have a1:B≠A.next:=by intro e;rw[e,K]at k;cases k
 refine⟨?_,?_,?_,?_,λE Y p=>?_,λg F x a m j=>?_,λg h=>?_⟩;rotate_left 6;obtain⟨q1,q2⟩:=R.nl g h;refine⟨Nat.lt_succ_of_lt q1,?_⟩;show(if g=A.next then _ else σ g)=none;rw[D' (by omega)];exact q2;rotate_left 4;have p:σ.ro E=some Y:=p;rw[Z E (λe=>by have:=R.sep B o _ L I k;simp only at this;rw[e,this]at p;cases p)];exact R.ro E Y p;simp only[D,U]at a;unfold AM.upd at j;simp only at j;show σ.ro x.1=none;by_cases e:g=A.next
 rw[Gw e]at j;cases j;have s:=R.sep B o (b,d,c) L I k;exact s;rw[D' e]at a j;by_cases G:g=B;rw[Gw G]at a;cases a;simp[AObj.own]at m;rw[D' G]at a;exact R.sep g F x a m j;intro g F a S;simp only[D,U]at a;by_cases e:g=A.next
 rw[Gw e]at a;cases a;subst e;exact .inl ⟨b,d2,c2,bF,Q⟩;rw[D' e]at a;by_cases r:g=B;rw[Gw r]at a;cases a;simp[AObj.here]at S;· rw[D' r]at a;rcases R.obj0 g F a S with⟨b1,d1,c1,M,V⟩|⟨M,V⟩;rotate_left;exact .inr ⟨M,V⟩;refine .inl ⟨b1,d1,c1,y.f _ _ M,?_⟩;rw[Z b1 (λx=>R.inj B g o F _ _ L a I S (λz=>r z.symm) k M x.symm)];exact V.mono y
 intro g N F O x x' a q m u J j l;simp only[D,U]at a q;unfold AM.upd at j l;simp only at j l;by_cases e:g=A.next
 rw[Gw e]at j;rw[D' (λz=>J (e.trans z.symm))]at q l;cases j;by_cases r:N=B;rw[Gw r]at q;cases q;simp[AObj.here]at u;rw[D' r]at q;have s:=R.inj B N o O (b,d,c) _ L q I u (λz=>r z.symm) k l;exact s;rw[D' e]at a j;by_cases G:g=B;rw[Gw G]at a;cases a;simp[AObj.own]at m;rw[D' G]at a;by_cases z:N=A.next
 rw[Gw z]at l;cases l;have s:=R.inj g B F o _ (b,d,c) a L m (AObj.here_of_own I) G j k;exact s;rw[D' z]at q l;by_cases r:N=B;rw[Gw r]at q;cases q;simp[AObj.here]at u;rw[D' r]at q;exact R.inj _ _ _ _ _ _ a q m u J j l;intro g x j;unfold AM.upd at j;simp only at j;rw[s];by_cases e:g=A.next
 rw[Gw e]at j;cases j;have s:=R.lt B (b,d,c) k;exact s;rw[D' e]at j;exact R.lt g x j;intro g a;show AM.upd σ A.next _ g=none
 unfold AM.upd;simp only;rw[D' (by simp at a;omega)];exact R.fresh g (by simp at a;omega)
theorem Ext.move{A:AH}(R:Rel P σ A w){f d2 c2:Nat}{o o2:AObj}{t s:T AObj}
 (u:A.t.get B=some o) (q:o.own=true) (k:σ B=some (b,d,c)) (l:T.set f A.t B .dead=some t) (a:T.set f t A.next o2=some s)
 (E:w'.heap.size=w.heap.size) (D:∀ m,m≠b->w'.heap[m]? =w.heap[m]?) (J:w'.os=w.os) (I:w'.tape=w.tape) (H:w'.output=w.output):
 Ext σ A w (AM.upd σ A.next (b,d2,c2)) ⟨s,A.next+1⟩ w':=by
 have G:=Hp l;have r:=Hp a;refine⟨?_,I1 _,by rw[E];exact GK _,?_,?_,?_,J,I,H,λ_ _ h=>h,λ_ _ h=>.inl h,λ_ _=>Jb⟩;intro p h;unfold AM.upd;simp only;rw[D' (by omega)];intro m _ F;exact D m (λe=>F B o _ u q k e.symm);all_goals
  intro p C x j y g;simp only[r,G]at j;unfold AM.upd at g;simp only at g;by_cases e:p=A.next
  rw[Gw e]at g;cases g;exact .inr ⟨B,o,_,u,by first|exact q|exact AObj.here_of_own q,k,rfl⟩;rw[D' e]at j g;by_cases z:p=B;rw[Gw z]at j;cases j;simp[AObj.own,AObj.here]at y;rw[D' z]at j;exact .inr ⟨p,C,x,j,y,g,rfl⟩
def nilU(σ:Sig)(id:Nat):Sig:=⟨σ.f,σ.ro,λB=>B=id∨σ.nl B⟩
theorem dR(σ:Sig)(id:Nat):σ.sub (nilU σ id):=⟨λ_ _ h=>h,λ_ _ h=>h⟩
theorem Rel.nilGro{A:AH}(R:Rel P σ A w){f:Nat}{e:TypeId}{t:T AObj}(m:T.set f A.t A.next (.gro [] [] e)=some t):Rel P (nilU σ A.next) ⟨t,A.next+1⟩ w/\Ext σ A w (nilU σ A.next) ⟨t,A.next+1⟩ w:=by
 have y:=Hp m;have p:σ A.next=none:=R.fresh _ (GK _)
 have a:∀ {B:Nat}{o:AObj}{x:Nat×Nat×Nat},t.get B=some o->σ B=some x->A.t.get B=some o:=fun {B o x} h g=>by
  rw[y]at h;by_cases e:B=A.next
  subst e;rw[p]at g;cases g;rwa[D' e]at h
 refine⟨⟨λB o h u=>?_,λB F o D x C h E r u s g l=>R.inj B F o D x C (a h g) (a E l) r u s g l,R.lt,λB z=>R.fresh B (by simp at z;omega),R.ro,λB o x h r g=>R.sep B o x (a h g) r g,λB h=>?_⟩,⟨λ_ _=>rfl,I1 _,GK _,λ_ _ _=>rfl,λB o x k j q=>.inr ⟨B,o,x,a k q,j,q,rfl⟩,λB o x k j q=>.inr ⟨B,o,x,a k q,j,q,rfl⟩,rfl,rfl,rfl,λ_ _ h=>h,λ_ _ h=>.inl h,λB z=>⟨λh=>h.resolve_left (by omega),.inr⟩⟩⟩;have h:t.get B=some o:=h;rw[y]at h;by_cases e:B=A.next
 subst e;rw[Gw rfl]at h;cases h;exact .inr ⟨rfl,.inl rfl⟩;rw[D' e]at h;rcases R.obj0 B o h u with⟨b,d,c,k,j⟩|⟨k,j⟩;exact .inl ⟨b,d,c,k,j.mono (dR σ _)⟩;exact .inr ⟨k,.inr j⟩;rcases h with rfl|h;exact⟨IC _,p⟩;exact⟨Nat.lt_succ_of_lt (R.nl B h).1,(R.nl B h).2⟩
theorem aL(b o n:Nat):(⟨b,o,none⟩:Addr).add n=⟨b,o+n,none⟩:=by unfold Addr.add;split<;>simp_all
def look(A:AH)(B:Nat):Option Lh:=
 match A.t.get B with
 |some (.cells c _)=>some c
 |some (.ro c _)=>some c
 |_=>none
theorem gK{A:AH}(R:Rel P σ A w){c:Lh}(h:look A B=some c)(m:c[i]? =some v):
 ∃b d k v',σ B=some (b,d,k)/\w.cell? ⟨b,d+i,none⟩=some v'/\VR σ v v':=by
 unfold look at h;cases e:A.t.get B with
 |none=>simp[e]at h
 |some o=>
 cases o<;>simp only[e]at h<;>first|(simp at h;done)|skip
 all_goals cases h
 obtain⟨b,d,k,a,p,q,r,g,_,f,_⟩:=R.obj B _ e rfl;obtain⟨v',l,j⟩:=f i v m;exact⟨b,d,k,v',a,by simp[World.cell?,g,l],j⟩;obtain⟨b,d,k,a,p,s,g,f⟩:=R.obj B _ e rfl;obtain⟨v',l,j⟩:=f i v m;exact⟨b,d,k,v',a,by simp[World.cell?,g,l],j⟩
def gj(A:AH)(B i n:Nat):Option Lh:=
 match look A B with
 |some c=>let l:=(c.drop i).take n;bif Nat.beq l.length n then some l else none
 |none=>none
theorem cX{A:AH}(R:Rel P σ A w){k:Nat}{l:Lh}(h:gj A B i n=some l)(u:σ B=some (b,d,k)):
 ∃l',VRs σ l l'/\∀ w':World,w'.heap=w.heap->(loadCells ⟨b,d+i,none⟩ n).run P w'=.ok l'.toArray w':=by
 unfold gj at h;cases s:look A B with
 |none=>simp[s]at h
 |some c=>
 simp only[s]at h;by_cases p:((c.drop i).take n).length=n;have e:Nat.beq ((c.drop i).take n).length n=true:=by rw[p];simp
 rw[e]at h;simp only[C',osI]at h;subst h;have f:∀ (j:Nat) v,((c.drop i).take n)[j]? =some v->∃ g,w.cell? ⟨b,d+i+j,none⟩=some g/\VR σ v g:=by
  intro j v a;have E:c[i+j]? =some v:=by rw[GZ]at a;split at a;rw[GV]at a;exact a;cases a
  obtain⟨L,K,J,g,m,r,z⟩:=gK R s E;rw[u]at m;cases m;exact⟨g,by rw[Hs];exact r,z⟩
 generalize ((c.drop i).take n)=l at p f;clear s e;have t:∃ l',VRs σ l l'/\∀ (j:Nat) g,l'[j]? =some g->w.cell? ⟨b,d+i+j,none⟩=some g:=by
  clear p;generalize d+i=o at f;induction l generalizing o with
  |nil=>exact⟨[],.nil,λj g h=>by simp at h⟩
  |cons x l D=>
  obtain⟨C,m,r⟩:=f 0 x (by simp);obtain⟨l',z,G⟩:=D (o+1) (λj v a=>by obtain⟨g,I,H⟩:=f (j+1) v (by simpa using a);exact⟨g,by rw[show o+1+j=o+(j+1)by omega];exact I,H⟩)
  refine⟨C::l',.cons r z,λj g a=>?_⟩;cases j with
  |zero=>simp at a;subst a;simpa using m
  |succ j=>simp at a;rw[show o+(j+1)=o+1+j by omega];exact G j g a
 obtain⟨l',m,r⟩:=t;refine⟨l',m,λw' y=>?_⟩;have q:l'.length=n:=by rw[m.length,p]
 rw[<-q];exact I7 w' ⟨b,d+i,none⟩ l' (λj v a=>by rw[aL];have:=r j v a;unfold World.cell? at this ⊢;rw[y];exact this)
 have e:Nat.beq ((c.drop i).take n).length n=false:=by cases F:Nat.beq ((c.drop i).take n).length n;rfl;exact absurd (Gy F) p
 rw[e]at h;simp at h
theorem ld{A:AH}(R:Rel P σ A w){k:Nat}{l:Lh}(h:gj A B i n=some l)(a:σ B=some (b,d,k)):
 ∃l',VRs σ l l'/\(loadCells ⟨b,d+i,none⟩ n).run P w=.ok l'.toArray w:=
 let ⟨l',h1,h2⟩:=cX R h a
 ⟨l',h1,h2 w rfl⟩
def cellv(v:Value):Bool:=v.oneCell'
theorem VR.cellv{v':Value}(h:VR σ v v'):AM.cellv v'=AM.cellv v:=by cases h<;>rfl
theorem VRs.cellv:∀ {l l':Lh},VRs σ l l'->l.all AM.cellv=true->∀ v∈l',v.oneCell'=true
 |_,_,.nil,_,v,h=>by simp at h
 |_,_,.cons hv t,ha,v,h=>by simp only[I3,f']at ha;rcases GI.1 h with rfl|h;exact(VR.cellv hv).trans ha.1;exact t.cellv ha.2 v h
def over(c:Lh)(i:Nat)(vs:Lh):Lh:=c.take i++vs++c.drop (i+vs.length)
theorem b7{c vs:Lh}(h:i+vs.length<=c.length)(j:Nat):
 (over c i vs)[j]? =if j<i then c[j]? else if j<i+vs.length then vs[j-i]? else c[j]?:=by
 unfold over;have e:(c.take i).length=i:=by simp;omega
 rw[HT,G0,e];split;rw[GZ,Gw (by assumption)];rw[G0];by_cases a:j<i+vs.length;rw[Gw (by omega),Gw a];rw[D' (by omega),D' a,GV];congr 1;omega
theorem bm{c vs:Lh}(h:i+vs.length<=c.length):(over c i vs).length=c.length:=by unfold over;simp;omega
theorem cO{P:Program}:∀ (vs:Lh) (i:Nat) (w:World) (b o:Nat) (c:Array Value) (e:TypeId) (lo f:Nat),
 w.heap[b]? =some (.cells c e (lo,f))->o+i+vs.length<=c.size->(∀i,i<c.size->¬ (lo<=i/\i<f))->(∀v∈vs,v.oneCell'=true)->
 ∃ w',(storeCells ⟨b,o,none⟩ vs i).run P w=.ok () w'/\w'.heap.size=w.heap.size/\(∀q,q≠b->w'.heap[q]? =w.heap[q]?)/\
   w'.heap[b]? =some (.cells (over c.toList (o+i) vs).toArray e (lo,f))/\w'.os=w.os/\w'.tape=w.tape/\w'.output=w.output/\w'.drawn=w.drawn
 | [],i,w,b,o,c,e,lo,f,hb,_,_,_=>⟨w,rfl,rfl,λ_ _=>rfl,by rw[hb];simp[over],rfl,rfl,rfl,rfl⟩
 | v::vs,i,w,b,o,c,e,lo,f,hb,hl,hf,h1=>by
  have a:o+i<c.size:=by simp at hl;omega
  have g:w.cell? ⟨b,o+i,none⟩=some c[o+i]:=by simp[World.cell?,hb,a]
  have p:w.frozen? ⟨b,o+i,none⟩=false:=by have:=hf (o+i) a;simp only[World.frozen?,hb];simpa using this
  have t:b<w.heap.size:=by rcases Hg b w.heap.size with h|h;exact h;rw[He h]at hb;cases hb
  have k:(w.setCell ⟨b,o+i,none⟩ v).heap[b]? =some (.cells (c.setIfInBounds (o+i) v) e (lo,f)):=by simp[World.setCell,JJ,hb]
  obtain⟨w',G,F,E,D,C,A,z,y⟩:=cO vs (i+1) (w.setCell ⟨b,o+i,none⟩ v) b o (c.setIfInBounds (o+i) v) e lo f k (by simp at hl ⊢;omega) (λj r=>hf j (by simpa using r)) (λx u=>h1 x (by simp[u]));refine⟨w',?_,?_,?_,?_,?_,?_,?_,?_⟩;simp only[storeCells,GN,aL];rw[run_store P w _ v _ (h1 v (by simp)),g];simp only[p,HO,HV,GJ];exact G;rw[F];simp[World.setCell];intro q l;rw[E q l];simp only[World.setCell,JJ];rw[D' (λe=>l e.symm)];rw[D];congr 3;apply II;intro j;rw[b7 (by simp at hl ⊢;omega),b7 (by simp at hl ⊢;omega)];simp only[Jo,Hq,GY];by_cases r:j<o+i;rw[Gw r,Gw (by omega),D' (by omega)];rw[D' r];by_cases s:j=o+i;subst s;rw[Gw (by omega),Gw rfl,Gw (by simpa using a),Gw (by omega)];simp;rw[D' (by omega)];by_cases m:j<o+(i+1)+vs.length;rw[Gw m,Gw (by omega)];rw[show j-(o+i)=(j-(o+(i+1)))+1 by omega,Ic];rw[D' m,D' (by omega),D' (by omega)];rw[C];rfl;rw[A];rfl;rw[z];rfl;rw[y];rfl
def Good(P:Program)(σ:Sig)(A:AH)(w:World)(r:Result Next)(v:Value)(A':AH):Prop:=
 ∃nx v' w' σ',r=.ok nx w'/\(nx=.value v'∨(nx=.skip/\v'=undef))/\VR σ' v v'/\Rel P σ' A' w'/\Ext σ A w σ' A' w'
theorem Good.value{A A':AH}{r:Result Next}{v':Value}(h:r=.ok (.value v') w')(a:VR σ' v v')(e:Rel P σ' A' w')(f:Ext σ A w σ' A' w'):Good P σ A w r v A':=
 ⟨_,v',w',σ',h,.inl rfl,a,e,f⟩
theorem cz(σ:Sig):VR σ undef undef:=.tuple .nil
theorem Good.skip{A A':AH}{r:Result Next}(h:r=.ok .skip w')(a:Rel P σ' A' w')(e:Ext σ A w σ' A' w'):Good P σ A w r undef A':=
 ⟨_,undef,w',σ',h,.inr ⟨rfl,rfl⟩,cz _,a,e⟩
abbrev _root_.Go.I5:=@Go.run_underlying
abbrev _root_.Go.HB:=@Go.Sem.run_pure
abbrev _root_.Go.Hv:=@Array.toList_inj
abbrev _root_.Go.GT:=@cond_false
abbrev _root_.Go.JK:=@Bool.and_eq_false_iff
abbrev _root_.Go.Io:=@decide_eq_false_iff_not
abbrev _root_.Go.H8:=@Nat.zero_add
abbrev _root_.Go.E':=@List.getElem?_eq_getElem
abbrev _root_.Go.Hw:=@List.getElem?_eq_none
abbrev _root_.Go.GC:=@Prod.mk.injEq
abbrev _root_.Go.GO:=@Nat.ble_eq
abbrev _root_.Go.HR:=@Bool.or_eq_true
abbrev _root_.Go.If:=@Go.WideShapes.bytes_inj
abbrev _root_.Go.H9:=@Nat.le_of_ble_eq_true
abbrev _root_.Go.IV:=@Option.isSome_none
abbrev _root_.Go.Hx:=@Option.map_some
abbrev _root_.Go.JO:=@Nat.sub_zero
abbrev _root_.Go.Ij:=@Nat.sub_self
structure Env where
 P:Program
 ti:TypeId->Option TypeInfo
 fn:FuncId->Option Func
 gl:Nat->Option Lh
 ext:FuncId->Option (Lh->AH->Option (Value×AH))
 sym:Bool
def plc(cs:Lh):Value:=.func (.yield 1) ⟨cs⟩ ⟨[.int .i64 (0:Nat),.int .i64 (0:Nat)]⟩
abbrev GlOk(E:Env):Prop:=∀ g:Nat,E.gl g=E.gl g
structure Env.Ok (E:Env):Prop where
 ti:∀ t i,E.ti t=some i->E.P.info? t=some i
 fn:∀ f g,E.fn f=some g->E.P.funcs[f]? =some g
 fnb:∀ f g,E.fn f=some g->g.body.isNone=false/\(g.name== "runtime.NumGoroutine")=false
 ext:∀ f x vs A v A',E.ext f=some x->x vs A=some (v,A')->∀ σ w vs',Rel E.P σ A w->VRs σ vs vs'->Good E.P σ A w ((callFunc f ⟨vs'⟩).run E.P w) v A'
 mixed:E.P.follows .mixedOrders=true
def und(E:Env)(t:TypeId):Option TypeDesc:=
 match E.ti t with
 | some i=>(match i.desc with
   | .named _ u=>(match E.ti u with|some j=>some j.desc|none=>none)
   |d=>some d)
 |none=>none
theorem ce{E:Env}(g:E.Ok){t:TypeId}{d:TypeDesc}(h:und E t=some d):E.P.underlying t=some d:=by
 unfold und at h;unfold Program.underlying;cases e:E.ti t with
 |none=>simp[e]at h
 |some i=>
 rw[g.ti t i e];obtain⟨a,x,s,r,q,p,o,m,l,k⟩:=i;cases a with
 | named n u=>
  simp only[e]at h ⊢;cases f:E.ti u with
  |none=>simp[f]at h
  |some j=>simp only[f,osI]at h;rw[g.ti u j f];simp[h]
 |_=>simpa[e]using h
section
variable {E:Env}{w:World}
variable {t:TypeId}{i:TypeInfo}
theorem af(a:E.Ok){d:TypeDesc}(h:und E t=some d)(w:World):(underlying t).run E.P w=.ok d w:=I5 (ce a h) w
theorem uG(a:E.Ok)(h:E.ti t=some i)(w:World):(typeInfo t).run E.P w=.ok i w:=by simp[typeInfo,a.ti t i h]
theorem aD(a:E.Ok)(h:E.ti t=some i)(w:World):(sizeOf t).run E.P w=.ok i.size w:=by simp[sizeOf,uG a h]
theorem fq(a:E.Ok){z:Value}(h:E.ti t=some i)(b:i.zero=some z)(w:World):(zeroValue t).run E.P w=.ok z w:=by simp[zeroValue,uG a h,b]
def br:TypeDesc->Bool
 | .struct _| .array .. =>true
 |_=>false
theorem cG(a:E.Ok){d:TypeDesc}(h:und E t=some d)(w:World):(isAgg t).run E.P w=.ok (br d) w:=by simp only[isAgg,GN,af a h,GJ];cases d<;>rfl
end
variable {A:AH}{r:Bool}{E:Env}{y:Operand}{P:Program}{σ:Sig}{kt t:TypeId}{a' b b' k v x x':Value}{w:World}
def prun{α :Type}(P:Program):Sem α ->Option α
 | .pure a=>some a
 | .program k=>prun P (k P)
 | .mark _ k=>prun P k
 | .choose q k=>bif q.forced then prun P (k 0)else none
 |_=>none
theorem ji{e :Type}{s:Sem e}{a: e}(h:prun P s=some a)(w:World):s.run P w=.ok a w:=by
 induction s with
 |pure b=>simp[prun]at h;subst h;rfl
 |program k c=>exact c P h
 |mark m k c=>exact c h
 | choose q k c=>
  simp only[prun]at h;cases d:q.forced with
  |true=>rw[d]at h;simp only[Sem.run,d,Ie];exact c 0 h
  |false=>rw[d]at h;simp at h
 |_=>simp[prun]at h
def OpR(σ:Sig)(ρ:Operand->Lj)(ρ':Operand->Value):Prop:=∀ x v,ρ x=some v->VR σ v (ρ' x)
def mapO{α β :Type}(f: α ->Option β):List α ->Option (List β)
 | []=>some []
 | x::l=>match f x with
   |some y=>(match mapO f l with|some r=>some (y::r)|none=>none)
   |none=>none
theorem dV{σ:Sig}{ρ:Operand->Lj}{a:Operand->Value}(c:OpR σ ρ a):∀ {l:List Operand}{vs:Lh},mapO ρ l=some vs->VRs σ vs (l.map a)
 | [],vs,h=>by simp[mapO]at h;subst h;exact .nil
 | x::l,vs,h=>by
  simp only[mapO]at h;cases d:ρ x with
  |none=>simp[d]at h
  |some y=>
  cases e:mapO ρ l with
  |none=>simp[d,e]at h
  |some r=>simp only[d,e,osI]at h;subst h;exact .cons (c x y d) (dV c e)
def nth{α :Type}:List α ->Nat->Option α
 | [],_=>none
 | x::l,n=>match n with
   |0=>some x
   |k+1=>nth l k
theorem aN{a :Type}:∀ (l:List a) (n:Nat),nth l n=l[n]?
 | [],_=>rfl
 |x::l,0=>rfl
 |x::l,n+1=>by simp[nth,aN l n]
def oh(E:Env)(t:TypeId)(cs:Lh)(off:Nat):Lj:=
 match und E t,E.ti t with
 |some d,some i=>bif br d then(let l:=(cs.drop off).take i.size;some (.agg ⟨l⟩))else nth cs off
 |_,_=>none
theorem eX(f:E.Ok){cs a:Lh}{off:Nat}(l:VRs σ cs a)(h:oh E t cs off=some v)(w:World):
 ∃v',(part t ⟨a⟩ off).run E.P w=.ok v' w/\VR σ v v':=by
 unfold oh at h;cases c:und E t with
 |none=>simp[c]at h
 |some d=>
 cases g:E.ti t with
 |none=>simp[c,g]at h
 |some i=>
 simp only[c,g]at h;cases e:br d with
 |true=>simp only[e,C',osI]at h;subst h;refine⟨.agg ⟨(a.drop off).take i.size⟩,?_,.agg ((l.drop off).take i.size)⟩;simp only[part,GN,cG f c,GJ,e,Ie,aD f g,HB];congr 2;apply Hv.1;simp
 |false=>
 simp only[e,GT,aN]at h;obtain⟨v',n,m⟩:=l.get h;refine⟨v',?_,m⟩;have j:(⟨a⟩:Array Value)[off]? =some v':=by simpa using n
 simp[part,cG f c,e,j]
def oL(E:Env)(t:TypeId)(x:Value)(f:Nat):Lj:=
 match und E t,x with
 |some (.struct fs),.agg ⟨cs⟩=>(match nth fs.toList f with|some fd=>oh E fd.type cs fd.offset|none=>none)
 |_,_=>none
theorem zI(d:E.Ok){f:Nat}(g:VR σ x x')(h:oL E t x f=some v)(w:World):
 ∃v',(Instr.field t x' f).run E.P w=.ok v' w/\VR σ v v':=by
 unfold oL at h;split at h;rename_i e p i;cases g with
 | agg j=>
  rename_i o;rw[aN]at h;cases c:e.toList[f]? with
  |none=>simp[c]at h
  |some n=>
  simp only[c]at h;obtain⟨v',m,l⟩:=eX d j h w;have a:e[f]? =some n:=by simpa using c
  exact⟨v',by simp[Instr.field,af d i,a,asAgg,m],l⟩
 cases h
def fldA(E:Env)(t:TypeId)(x:Value)(f:Nat):Lj:=
 match und E t,x with
 | some (.struct fs),.pointer (some ⟨B,o,none⟩)=>(match nth fs.toList f with
   |some fd=>(match E.ti fd.type with|some i=>bif Nat.beq i.size 0 then none else some (.pointer (some ⟨B,o+fd.offset,none⟩))|none=>none)
   |none=>none)
 |_,_=>none
theorem aW{a b:Nat}(h:Nat.beq a b=false):a≠b:=by intro e;subst e;simp at h
theorem fld_ok(p:E.Ok){f:Nat}(s:VR σ x x')(h:fldA E t x f=some v)(w:World):
 ∃v',(Instr.fieldAt t x' f).run E.P w=.ok v' w/\VR σ v v':=by
 unfold fldA at h;split at h;rename_i q B o u;cases s with
 | ptr i a=>
  rename_i b d c;rw[aN]at h;cases m:q.toList[f]? with
  |none=>simp[m]at h
  |some n=>
  simp only[m]at h;cases j:E.ti n.type with
  |none=>simp[j]at h
  |some i=>
  simp only[j]at h;cases g:Nat.beq i.size 0 with
  |true=>simp[g]at h
  |false=>
  simp only[g,GT,osI]at h;subst h;have e:=aW g;have l:q[f]? =some n:=by simpa using m
  refine⟨.pointer (some ⟨b,d+o+n.offset,none⟩),?_,?_⟩;simp[Instr.fieldAt,af p u,l,Instr.sureAddr,fieldPlace,aD p j,e,aL];rw[Hs];exact .ptr _ a
 cases h
def idxA(E:Env)(t:TypeId)(x i:Value):Lj:=
 match i with
 | .int _ n=>(match und E t with
   | some (.array len e)=>(match x with
     | .pointer (some ⟨B,o,none⟩)=>(match E.ti e with
       |some ie=>bif decide (0<=n)&&decide (n<len)then some (.pointer (some ⟨B,o+n.toNat*ie.size,none⟩))else none
       |none=>none)
     |_=>none)
   | some (.slice e)=>(match x with
     | .slice (some ⟨B,o,none⟩) len k=>(match E.ti e with
       |some ie=>bif decide (0<=n)&&decide (n<len)then some (.pointer (some ⟨B,o+n.toNat*ie.size,none⟩))else none
       |none=>none)
     |_=>none)
   |_=>none)
 |_=>none
theorem idx_ok(p:E.Ok){i u:Value}(F:VR σ x x')(H:VR σ i u)(h:idxA E t x i=some v)(w:World):
 ∃v',(Instr.indexAt t x' u).run E.P w=.ok v' w/\VR σ v v':=by
 unfold idxA at h;split at h;rename_i k n;cases H;split at h;rename_i g e s;split at h;rename_i B o;cases F with
 | ptr G f=>
  rename_i b d c;split at h;rename_i q j;by_cases l:0<=n/\n<g;have:(decide (0<=n)&&decide (n<(g:Int)))=true:=by simp[l.1,l.2]
  rw[this]at h;simp only[C',osI]at h;subst h;refine⟨.pointer (some ⟨b,d+o+n.toNat*q.size,none⟩),?_,?_⟩;simp[Instr.indexAt,asIntOf,af p s,Instr.sureAddr,l,aD p j,aL];rw[Hs];exact .ptr _ f;have:(decide (0<=n)&&decide (n<(g:Int)))=false:=by simp only[JK,Io];omega
  rw[this]at h;simp at h;cases h
 cases h;rename_i e s;split at h;rename_i B o g J;split at h;rename_i q j;by_cases l:0<=n/\n<g;have:(decide (0<=n)&&decide (n<(g:Int)))=true:=by simp[l.1,l.2]
 rw[this]at h;simp only[C',osI]at h;subst h;cases F with
 |slice u z C f D=>rename_i b d c;refine⟨.pointer (some ⟨b,d+o+n.toNat*q.size,none⟩),?_,?_⟩;simp[Instr.indexAt,asIntOf,af p s,Instr.sureAddr,l,aD p j,aL];rw[Hs];exact .ptr _ f
 |sliceU z f D=>rename_i b d c;refine⟨.pointer (some ⟨b,d+n.toNat*q.size,none⟩),?_,?_⟩;simp[Instr.indexAt,asIntOf,af p s,Instr.sureAddr,l,aD p j,aL];rw[H8];exact .ptr _ f
 |sliceV u z C f D=>rename_i b d c;refine⟨.pointer (some ⟨b,d+o+n.toNat*q.size,none⟩),?_,?_⟩;simp[Instr.indexAt,asIntOf,af p s,Instr.sureAddr,l,aD p j,aL];rw[Hs];exact .ptr _ f
 |sliceE a a' C=>simp at l;omega
 |gs0=>simp at l;omega
 |gs I G z C m f D M K L=>rename_i b d c;refine⟨.pointer (some ⟨b,d+o+n.toNat*q.size,none⟩),?_,?_⟩;simp[Instr.indexAt,asIntOf,af p s,Instr.sureAddr,l,aD p j,aL];rw[Hs];exact .ptr _ f
 have:(decide (0<=n)&&decide (n<(g:Int)))=false:=by simp only[JK,Io];omega
 rw[this]at h;simp at h;cases h;cases h;cases h;cases h
def vH(E:Env)(A:AH)(t:TypeId)(a:Value):Lj:=
 match a with
 | .pointer (some ⟨B,o,none⟩)=>(match und E t with
   | some d=>bif br d then(match E.ti t with
    |some i=>(match gj A B o i.size with|some l=>some (.agg ⟨l⟩)|none=>none)
    | none=>none)
     else(match look A B with|some c=>nth c o|none=>none)
   |none=>none)
 |_=>none
theorem vF(j:E.Ok)(R:Rel E.P σ A w){a:Value}(u:VR σ a a')(h:vH E A t a=some v):
 ∃v',(Instr.loadAt t a').run E.P w=.ok v' w/\VR σ v v':=by
 unfold vH at h;split at h;rename_i B o;cases u with
 | ptr C f=>
  rename_i b d c;split at h;rename_i dd p;cases e:br dd with
  |true=>simp only[e,C']at h;split at h;rename_i i s;split at h;rename_i l m;cases h;obtain⟨q,g,n⟩:=ld R m f;exact⟨.agg ⟨q⟩,by simp[Instr.loadAt,Instr.sureAddr,loadVar,cG j p,e,aD j s,n],.agg g⟩;cases h;cases h
  |false=>simp only[e,GT]at h;split at h;rename_i G m;rw[aN]at h;obtain⟨b',F,D,v',g,n,z⟩:=gK R m h;rw[f]at g;cases g;exact⟨v',by simp[Instr.loadAt,Instr.sureAddr,loadVar,cG j p,e,n],z⟩;cases h
  cases h
 cases h
def lj (E:Env)(t:TypeId)(x i:Value):Lj:=
 match i with
 | .int _ n=>(match und E t with
   | some (.array len e)=>(match x with
     | .agg ⟨cs⟩=>(match E.ti e with
       |some ie=>bif decide (0<=n)&&decide (n<len)then oh E e cs (n.toNat*ie.size)else none
       |none=>none)
     |_=>none)
   | some .string=>(match x with
     | .string s=>bif decide (0<=n)then(match nth s.data.toList n.toNat with|some b=>some (.int .u8 b.toNat)|none=>none)else none
     |_=>none)
   |_=>none)
 |_=>none
theorem o7(s:ByteArray)(n:Nat):s[n]? =s.data.toList[n]?:=by
 by_cases h:n<s.size;have a:n<s.data.toList.length:=by simpa using h
 rw[getElem?_pos s n h,E' a];rfl;have a:¬ n<s.data.toList.length:=by simpa using h
 rw[getElem?_neg s n h,Hw (Jj a)]
theorem zt(d:E.Ok){i l:Value}(m:VR σ x x')(o:VR σ i l)(h:lj E t x i=some v)(w:World):
 ∃v',(Instr.index t x' l).run E.P w=.ok v' w/\VR σ v v':=by
 unfold lj at h;split at h;rename_i k n;cases o;split at h;rename_i a e f;split at h;rename_i B;cases m with
 | agg p=>
  split at h;rename_i z g;by_cases c:0<=n/\n<a;have:(decide (0<=n)&&decide (n<(a:Int)))=true:=by simp[c.1,c.2]
  rw[this]at h;simp only[C']at h;obtain⟨v',u,q⟩:=eX d p h w;exact⟨v',by simp[Instr.index,asIntOf,af d f,c,aD d g,u],q⟩;have:(decide (0<=n)&&decide (n<(a:Int)))=false:=by simp only[JK,Io];omega
  rw[this]at h;simp at h;cases h
 cases h;rename_i f;split at h;rename_i s;cases m;by_cases c:0<=n;simp only[c,Ia,C',aN]at h;cases j:s.data.toList[n.toNat]? with
 |none=>simp[j]at h
 | some b=>
  simp only[j,osI]at h;subst h;refine⟨_,?_,.int _ _⟩;have:s[n.toNat]? =some b:=by rw[o7];exact j
  simp[Instr.index,asIntOf,af d f,c,this]
 simp[c]at h;cases h;cases h;cases h
def db(x:Lj)(dflt:Nat):Lk:=
 match x with
 |none=>some dflt
 |some (.int _ n)=>bif decide (0<=n)then some n.toNat else none
 |_=>none
def bnds(len cap:Nat)(lo hi mx:Lj):Option (Nat×Nat×Nat):=
 match db mx cap,db hi len,db lo 0 with
 |some m,some h,some l=>bif Nat.ble m cap&&(Nat.ble h m&&(Nat.ble l h&&(hi.isSome||mx.isNone)))then some (l,h,m)else none
 |_,_,_=>none
theorem bW{y n:Nat}{c:BoundsCode}(h:db (some x) 0=some n)(e:n<=y):(Instr.sliceBound x y c).run P w=.ok n w:=by
 unfold db at h;split at h;cases ‹some x=none›;rename_i k i d;cases d;by_cases a:0<=i;simp only[a,Ia,C',osI]at h;subst h;have:i<=(y:Int):=by omega
 simp[Instr.sliceBound,asIntOf,a,this];simp[a]at h;cases h
theorem c9{b:Bool}{len cap cp l h m:Nat}{lo j i:Lj}(g:bnds len cap lo j i=some (l,h,m))(L:cap<=cp):
 (Instr.sliceBounds b len cp lo j i).run P w=.ok (l,h,if i.isSome then m else cp) w/\l<=h/\h<=m/\m<=cap/\(i=none->m=cap)/\(j=none->h=len):=by
 unfold bnds at g;split at g;rename_i p s l1 D u f;cases d:(Nat.ble p cap&&(Nat.ble s p&&(Nat.ble l1 s&&(j.isSome||i.isNone))))with
 |false=>rw[d]at g;simp at g
 | true=>
  rw[d]at g;simp only[C',osI,GC]at g;obtain⟨rfl,rfl,rfl⟩:=g;simp only[f',GO,HR]at d;obtain⟨K,J,q,I⟩:=d;have G:i=none->p=cap:=by intro e;subst e;simpa[db]using D.symm
  have F:j=none->s=len:=by intro e;subst e;simpa[db]using u.symm
  refine⟨?_,q,J,K,G,F⟩;have a:∀ (x:Value) (H B:Nat),db (some x) H=db (some x) B:=λx _ _=>by cases x<;>rfl
  unfold Instr.sliceBounds;cases i with
  | none=>
   have:=G rfl;cases j with
   | none=>
    have:=F rfl;subst this;cases lo with
    |none=>simp[db]at f;subst f;simp
    |some x=>have o:=λc=>bW (P:=P) (w:=w) (c:=c) (a x 0 0▸f) q;simp[o]
   |some y=>
   have n:=λc=>bW (P:=P) (w:=w) (y:=cp) (c:=c) (a y len 0▸u) (by omega);cases lo with
   |none=>simp[db]at f;subst f;simp[n]
   |some x=>have o:=λc=>bW (P:=P) (w:=w) (c:=c) (a x 0 0▸f) q;simp[o,n]
  |some z=>
  cases j with
  |none=>simp at I
  |some y=>
  have C:=λc=>bW (P:=P) (w:=w) (y:=cp) (c:=c) (a z cap 0▸D) (by omega);have n:=λc=>bW (P:=P) (w:=w) (y:=p) (c:=c) (a y len 0▸u) (by omega);cases lo with
  |none=>simp[db]at f;subst f;simp[n,C]
  |some x=>have o:=λc=>bW (P:=P) (w:=w) (c:=c) (a x 0 0▸f) q;simp[o,n,C]
 cases g
def ao(l:List UInt8):ByteArray:=⟨⟨l⟩⟩
theorem tS(s:ByteArray)(a b:Nat):s.extract a b=ao ((s.data.toList.drop a).take (b-a)):=by apply If;rw[Lib.extract_data];rfl
def sliA (E :Env)(t:TypeId)(x:Value)(lo hi mx:Lj):Lj:=
 match und E t with
 | some (.array n e)=>(match x with
   | .pointer (some ⟨B,o,none⟩)=>(match E.ti e,bnds n n lo hi mx with
     |some ie,some (l,h,m)=>bif Nat.ble unk m then none else some (.slice (some ⟨B,bif Nat.beq m l then o else o+l*ie.size,none⟩) (h-l) (m-l))
     |_,_=>none)
   |_=>none)
 | some .string=>(match x with
   | .string s=>(match mx,bnds s.size s.size lo hi none with
     |none,some (l,h,_)=>some (.string (ao ((s.data.toList.drop l).take (h-l))))
     |_,_=>none)
   |_=>none)
 | some (.slice e)=>(match x with
   | .slice none n k=>(match E.ti e,bnds n k lo hi mx with
     |some _,some (l,h,m)=>some (.slice none (h-l) (m-l))
     |_,_=>none)
   | .slice (some ⟨B,o,none⟩) n k=>(match E.ti e with
     | some ie=>
       bif Nat.ble (unk+2) k then none
       else bif Nat.ble unk k then
        (match mx with
        | none=>(match bnds n n lo hi none with
          | some (l,h,_)=>
            bif Nat.beq l 0 then some (.slice (some ⟨B,o,none⟩) h k)
            else bif Nat.beq l h then some (.slice (some ⟨B,o,none⟩) 0 (unk+2))
            else some (.slice (some ⟨B,o+l*ie.size,none⟩) (h-l) (unk+1))
          |none=>none)
        | some z=>(match bnds n n lo hi (some z)with
          |some (l,h,m)=>bif Nat.ble unk m then none else some (.slice (some ⟨B,bif Nat.beq m l then o else o+l*ie.size,none⟩) (h-l) (m-l))
          |none=>none))
       else(match bnds n k lo hi mx with
        |some (l,h,m)=>bif Nat.ble unk m then none else some (.slice (some ⟨B,bif Nat.beq m l then o else o+l*ie.size,none⟩) (h-l) (m-l))
        |none=>none)
     |none=>none)
   |_=>none)
 |_=>none
theorem mint{m l:Nat}{c :Type}(a b: c):(bif Nat.beq m l then a else b)=if m=l then a else b:=by
 by_cases h:m=l;subst h;simp;have:Nat.beq m l=false:=by cases d:Nat.beq m l;rfl;exact absurd (Gy d) h
 simp[this,h]
theorem sli_ok(C:E.Ok){lo hi I:Lj}(V:VR σ x x')(h:sliA E t x lo hi I=some v)(w:World):
 ∃v',(Instr.sliceAt t x' lo hi I).run E.P w=.ok v' w/\VR σ v v':=by
 unfold sliA at h;split at h;rename_i n e O;split at h;rename_i B o;cases V with
 | ptr o' g=>
  rename_i b d c;split at h;rename_i U l F m q H;cases i:Nat.ble unk m with
  |true=>simp[i]at h
  | false=>
   simp only[i,GT,osI]at h;subst h;obtain⟨f,h1,h2,h3,N,_⟩:=c9 (P:=E.P) (w:=w) (b:=false) H (GK n);have em:(if I.isSome then m else n)=m:=by cases I<;>simp;exact(N rfl).symm
   rw[em]at f;have X:m-l<unk:=by
    have:¬ unk<=m:=by intro u;rw[<-GO]at u;rw[u]at i;cases i
    omega
   rw[mint];refine⟨_,by simp only[Instr.sliceAt,GN,af C O,GJ,Instr.sureAddr,HB,f,aD C q];rfl,?_⟩;by_cases p:m=l;simp only[p,Ie];exact .slice _ _ _ g (by omega);simp only[p,HV,aL,Hs];exact .slice _ _ _ g X
  cases h
 cases h;rename_i O;split at h;rename_i s;cases V;split at h;rename_i l F m H;cases h;obtain⟨f,h1,h2,h3,N,_⟩:=c9 (P:=E.P) (w:=w) (b:=false) H (GK s.size);refine⟨_,?_,.string _⟩;simp[Instr.sliceAt,Instr.slice,af C O,f,tS];cases h;cases h;rename_i e O;split at h;rename_i n k;cases V;split at h;rename_i U l F m q H;cases h;obtain⟨f,h1,h2,h3,N,_⟩:=c9 (P:=E.P) (w:=w) (b:=true) H (GK k);have em:(if I.isSome then m else k)=m:=by cases I<;>simp;exact(N rfl).symm
 rw[em]at f;refine⟨.slice none (F-l) (m-l),?_,.slice0 _ _⟩;simp[Instr.sliceAt,Instr.slice,af C O,f,aD C q];cases h;rename_i B o n k;split at h;rename_i U q;cases M:Nat.ble (unk+2) k with
 |true=>simp[M]at h
 | false=>
  simp only[M,GT]at h;have a1:k<unk+2:=by
   have:¬ unk+2<=k:=by intro u;rw[<-GO]at u;rw[u]at M;cases M
   omega
  cases D:Nat.ble unk k with
  | true=>
   simp only[D,C']at h;have Z:unk<=k:=H9 D;have G:∃ b d c J,σ B=some (b,d,c)/\x'=.slice (some ⟨b,d+o,none⟩) n J/\n<=J/\(k=unk->o=0/\J=c):=by
    cases V with
    |slice i' R S g hk=>omega
    |sliceU R g Q=>exact⟨_,_,_,_,g,rfl,Q,λ_=>⟨rfl,rfl⟩⟩
    |sliceV i' R S g Q=>exact⟨_,_,_,_,g,rfl,Q,λe=>by simp[unk]at e⟩
    |sliceE a a' S=>omega
    |gs0 B o m a hm=>omega
    |gs lo o' R S m g hk u ho hm=>omega
   obtain⟨b,d,c,J,g,rfl,Q,hU⟩:=G;split at h;split at h;rename_i l F m H;obtain⟨f,h1,h2,h3,N,_⟩:=c9 (P:=E.P) (w:=w) (b:=true) H Q;simp only[IV,HO,HV]at f;have j:(Instr.sliceAt t (.slice (some ⟨b,d+o,none⟩) n J) lo hi none).run E.P w=.ok (.slice (some (if J=l then⟨b,d+o,none⟩else(⟨b,d+o,none⟩:Addr).add (l*U.size))) (F-l) (J-l)) w:=by simp only[Instr.sliceAt,Instr.slice,GN,af C O,GJ,f,aD C q,HB,Hx];split<;>rfl
   have a2:m=n:=N rfl;refine⟨_,j,?_⟩;cases L:Nat.beq l 0 with
   | true=>
    simp only[L,C',osI]at h;subst h;obtain rfl:l=0:=Gy L;have ea:(if J=0 then(⟨b,d+o,none⟩:Addr)else(⟨b,d+o,none⟩:Addr).add (0*U.size))=⟨b,d+o,none⟩:=by simp[aL]
    rw[ea];simp only[JO];by_cases Y:k=unk;obtain⟨rfl,rfl⟩:=hU Y;subst Y;exact .sliceU _ g (by omega);obtain rfl:k=unk+1:=by omega
    exact .sliceV _ _ _ g (by omega)
   | false=>
    simp only[L,GT]at h;have a0:=aW L;cases K:Nat.beq l F with
    |true=>simp only[K,C',osI]at h;subst h;obtain rfl:l=F:=Gy K;simp only[Ij];exact .sliceE _ _ _
    |false=>simp only[K,GT,osI]at h;subst h;have:=aW K;rw[D' (by omega),aL,Hs];exact .sliceV _ _ _ g (by omega)
   cases h;rename_i z;split at h;rename_i l F m H;cases i:Nat.ble unk m with
   |true=>simp[i]at h
   | false=>
    simp only[i,GT,osI]at h;subst h;obtain⟨f,h1,h2,h3,N,_⟩:=c9 (P:=E.P) (w:=w) (b:=true) H Q;simp only[Option.isSome_some,Ie]at f;have X:m<unk:=by
     have:¬ unk<=m:=by intro u;rw[<-GO]at u;rw[u]at i;cases i
     omega
    rw[mint];have j:(Instr.sliceAt t (.slice (some ⟨b,d+o,none⟩) n J) lo hi (some z)).run E.P w=.ok (.slice (some (if m=l then⟨b,d+o,none⟩else(⟨b,d+o,none⟩:Addr).add (l*U.size))) (F-l) (m-l)) w:=by simp only[Instr.sliceAt,Instr.slice,GN,af C O,GJ,f,aD C q,HB,Hx];split<;>rfl
    refine⟨_,j,?_⟩;by_cases p:m=l;simp only[p,Ie];exact .slice _ _ _ g (by omega);simp only[p,HV,aL,Hs];exact .slice _ _ _ g (by omega)
   cases h
  |false=>
  simp only[D,GT]at h;have Z:k<unk:=by
   have:¬ unk<=k:=by intro u;rw[<-GO]at u;rw[u]at D;cases D
   omega
  have G:∃ b d c,σ B=some (b,d,c)/\x'=.slice (some ⟨b,d+o,none⟩) n k:=by
   cases V with
   |slice i' R S g hk=>exact⟨_,_,_,g,rfl⟩
   |sliceU R g Q=>omega
   |sliceV i' R S g Q=>omega
   |sliceE a a' S=>omega
   |gs0 B o m a hm=>omega
   |gs lo o' R S m g hk u ho hm=>omega
  obtain⟨b,d,c,g,rfl⟩:=G;split at h;rename_i l F m H;cases i:Nat.ble unk m with
  |true=>simp[i]at h
  | false=>
   simp only[i,GT,osI]at h;subst h;obtain⟨f,h1,h2,h3,N,_⟩:=c9 (P:=E.P) (w:=w) (b:=true) H (GK k);have em:(if I.isSome then m else k)=m:=by cases I<;>simp;exact(N rfl).symm
   rw[em]at f;rw[mint];have j:(Instr.sliceAt t (.slice (some ⟨b,d+o,none⟩) n k) lo hi I).run E.P w=.ok (.slice (some (if m=l then⟨b,d+o,none⟩else(⟨b,d+o,none⟩:Addr).add (l*U.size))) (F-l) (m-l)) w:=by simp only[Instr.sliceAt,Instr.slice,GN,af C O,GJ,f,aD C q,HB,Hx];split<;>rfl
   refine⟨_,j,?_⟩;by_cases p:m=l;simp only[p,Ie];exact .slice _ _ _ g (by omega);simp only[p,HV,aL,Hs];exact .slice _ _ _ g (by omega)
  cases h
 cases h;cases h;cases h
abbrev _root_.Go.Jt:=@List.foldl_cons
abbrev _root_.Go.GQ:=@decide_eq_true_eq
abbrev _root_.Go.JW:=@Bool.true_and
abbrev _root_.Go.HY:=@Nat.blt_eq
abbrev _root_.Go.Jr:=@Go.ByteArray.toList_eq
def qg(place:Nat->Option (Nat×Nat))(cells:Lh):List (Nat×Value)->Option Lh
 | []=>some cells
 | (i,v)::rest=>
   match place i with
   |none=>none
   | some (off,size)=>
     let vs:=v.cells.toList
     bif Nat.beq vs.length size&&Nat.ble (off+vs.length) cells.length then qg place (over cells off vs) rest else none
inductive PRs (σ:Sig):List (Nat×Value)->List (Nat×Value)->Prop
 |nil:PRs σ [] []
 |cons {i:Nat}{v v':Value}{l l':List (Nat×Value)}(h:VR σ v v') (t:PRs σ l l'):PRs σ ((i,v)::l) ((i,v')::l')
theorem VRs.over{c c' vs vs':Lh}{i:Nat}(h:VRs σ c c')(k:VRs σ vs vs'):VRs σ (AM.over c i vs) (AM.over c' i vs'):=by unfold AM.over;rw[k.length];exact((h.take i).append k).append (h.drop _)
theorem lA:∀ (vs:Lh) (k off:Nat) (cells:Array Value),off+k+vs.length<=cells.size->
 ((vs.zipIdx k).foldl (λ(cs:Array Value) (p:Value×Nat)=>cs.setIfInBounds (off+p.2) p.1) cells).toList=over cells.toList (off+k) vs
 | [],k,off,cells,_=>by simp[over]
 |v::vs,k,off,cells,h=>by rw[List.zipIdx_cons,Jt,lA vs (k+1) off _ (by simp at h ⊢;omega)];apply II;intro j;rw[b7 (by simp at h ⊢;omega),b7 (by simp at h ⊢;omega)];simp only[Jo,Hq,GY];by_cases d:j<off+k;rw[Gw d,Gw (by omega),D' (by omega)];rw[D' d];by_cases c:j=off+k;subst c;rw[Gw (by omega),Gw rfl,Gw (by simp at h ⊢;omega),Gw (by omega)];simp;rw[D' (by omega)];by_cases a:j<off+(k+1)+vs.length;rw[Gw a,Gw (by omega)];rw[show j-(off+k)=(j-(off+(k+1)))+1 by omega,Ic];rw[D' a,D' (by omega),D' (by omega)]
theorem nh{σ:Sig}{c:Nat->Option (Nat×Nat)}:∀ {g d:List (Nat×Value)}{cs a r:Lh},PRs σ g d->VRs σ cs a->qg c cs g=some r->
 ∃l,Instr.fill c ⟨a⟩ d=some ⟨l⟩/\VRs σ r l
 |_,_,cs,a,r,.nil,hc,h=>by simp only[qg,osI]at h;subst h;exact⟨a,rfl,hc⟩
 | _,_,cs,a,r,.cons (i:=i) (v:=v) (v':=v') hv ht,hc,h=>by
  simp only[qg]at h;unfold Instr.fill;cases q:c i with
  |none=>simp[q]at h
  |some x=>
  obtain⟨e,f⟩:=x;simp only[q]at h ⊢;cases m:(Nat.beq v.cells.toList.length f&&Nat.ble (e+v.cells.toList.length) cs.length);rw[m]at h;simp at h;rw[m]at h;simp only[C']at h;simp only[f',GO]at m;obtain⟨n,D⟩:=m;have n:=Gy n;have j:=hv.cells;have C:v'.cells.size=f:=by have:=j.length;simp at this n;omega
  have s:e+v'.cells.size<=a.length:=by have:=j.length;have:=hc.length;simp at*;omega
  have o:¬ ((decide (v'.cells.size≠f)||decide (e+v'.cells.size>(⟨a⟩:Array Value).size))=true):=by rw[C]at s ⊢;simp;omega
  rw[D' o];have u:v'.cells.zipIdx.foldl (λcs (p:Value×Nat)=>cs.setIfInBounds (e+p.2) p.1) (⟨a⟩:Array Value)=⟨over a e v'.cells.toList⟩:=by apply Hv.1;rw[<-Array.foldl_toList,Array.toList_zipIdx,lA _ 0 e ⟨a⟩ (by simpa using s)];rfl
  obtain⟨l,B,z⟩:=nh ht (hc.over j) h;refine⟨l,?_,z⟩;rw[<-B,<-u]
def jZ(ρ:Operand->Lj):List (Nat×Operand)->Option (List (Nat×Value))
 | []=>some []
 | (i,x)::l=>match ρ x with
   |some v=>(match jZ ρ l with|some r=>some ((i,v)::r)|none=>none)
   |none=>none
theorem mA{σ:Sig}{ρ:Operand->Lj}{a:Operand->Value}(c:OpR σ ρ a):∀ {l:List (Nat×Operand)}{r:List (Nat×Value)},jZ ρ l=some r->PRs σ r (l.map λp=>(p.1,a p.2))
 | [],r,h=>by simp[jZ]at h;subst h;exact .nil
 | (i,x)::l,r,h=>by
  simp only[jZ]at h;cases d:ρ x with
  |none=>simp[d]at h
  |some v=>
  cases e:jZ ρ l with
  |none=>simp[d,e]at h
  |some f=>simp only[d,e,osI]at h;subst h;exact .cons (c x v d) (mA c e)
def ix(E:Env):List Field->Option Ld
 | []=>some []
 | f::l=>match E.ti f.type with
   |some i=>(match ix E l with|some r=>some ((f.offset,i.size)::r)|none=>none)
   |none=>none
theorem og{E:Env}(d:E.Ok):∀ {l:List Field}{r:Ld},ix E l=some r->l.mapM (λf=>(E.P.info? f.type).map λi=>(f.offset,i.size))=some r
 | [],r,h=>by simp[ix]at h;subst h;rfl
 | f::l,r,h=>by
  simp only[ix]at h;cases a:E.ti f.type with
  |none=>simp[a]at h
  |some i=>
  cases c:ix E l with
  |none=>simp[a,c]at h
  |some e=>simp only[a,c,osI]at h;subst h;simp[List.mapM_cons,d.ti _ _ a,og d c]
def xA (E:Env)(t:TypeId)(parts:List (Nat×Value)):Lj:=
 match E.ti t with
 | some it=>(match it.zero with
   | some z=>bif z.cells.toList.all scal then
     (match und E t with
     | some (.array _ e)=>(match E.ti e with
       |some ie=>(match qg (λi=>some (i*ie.size,ie.size)) z.cells.toList parts with|some r=>some (.agg ⟨r⟩)|none=>none)
       |none=>none)
     | some (.struct fs)=>(match ix E fs.toList with
       |some pl=>(match qg (nth pl) z.cells.toList parts with|some r=>some (.agg ⟨r⟩)|none=>none)
       |none=>none)
     |_=>none)else none
   |none=>none)
 |none=>none
theorem zZ(d:E.Ok){c:List (Nat×Value)}{a:Array (Nat×Value)}(C:PRs σ c a.toList)(h:xA E t c=some v)(w:World):
 ∃v',(Instr.build t a).run E.P w=.ok v' w/\VR σ v v':=by
 unfold xA at h;split at h;rename_i F i;split at h;rename_i z B;cases l:z.cells.toList.all scal;rw[l]at h;simp at h;rw[l]at h;simp only[C']at h;have g:=bu l σ;split at h;rename_i n e j;split at h;rename_i G p;split at h;rename_i r m;cases h;obtain⟨f,s,q⟩:=nh C g m;refine⟨.agg ⟨f⟩,run_build w t a ⟨f⟩ ?_,.agg q⟩;simp only[Program.built,d.ti _ _ i,ce d j,B,d.ti _ _ p];exact s;cases h;cases h;rename_i H j;split at h;rename_i u o;split at h;rename_i r m;cases h;obtain⟨f,s,q⟩:=nh C g m;refine⟨.agg ⟨f⟩,run_build w t a ⟨f⟩ ?_,.agg q⟩;have D:(λx=>u.toArray[x]?)=nth u:=by funext x;rw[aN];simp
 simp only[Program.built,d.ti _ _ i,ce d j,B,og d o,D];exact s;cases h;cases h;cases h;cases h;cases h
def fJ(s:Int):Bool:=decide (-4611686018427387904<=s)&&decide (s<=4611686018427387903)
theorem cN{s:Int}(h:fJ s=true):IntKind.i64.wrap s=s:=by
 simp only[fJ,f',GQ]at h;have c:(2:Int) ^ 64=18446744073709551616:=by decide
 have a:(2:Int) ^ (64-1)=9223372036854775808:=by decide
 simp only[IntKind.wrap,IntKind.bits,IntKind.signed,JW,GQ,c,a];split<;>omega
def cmpI(op:BinOp)(x y:Int):Lj:=
 match op with
 | .eql=>some (.bool (decide (x=y)))
 | .neq=>some (.bool (!decide (x=y)))
 | .lss=>some (.bool (decide (x<y)))
 | .leq=>some (.bool (decide (x<=y)))
 | .gtr=>some (.bool (decide (y<x)))
 | .geq=>some (.bool (decide (y<=x)))
 |_=>none
def eqL:List UInt8->List UInt8->Bool
 | [],[]=>true
 |a::x,b::y=>bif Nat.beq a.toNat b.toNat then eqL x y else false
 |_,_=>false
theorem dZ:∀ (x y:List UInt8),eqL x y=true↔x=y
 | [],[]=>by simp[eqL]
 | [],_::_=>by simp[eqL]
 |_::_,[]=>by simp[eqL]
 | a::x,b::y=>by
  simp only[eqL];by_cases h:a.toNat=b.toNat;have d:a=b:=UInt8.toNat_inj.1 h;subst d;simp[dZ x y];have:Nat.beq a.toNat b.toNat=false:=by cases c:Nat.beq a.toNat b.toNat;rfl;exact absurd (Gy c) h
  rw[this];simp;intro e;subst e;exact absurd rfl h
def ltL:List UInt8->List UInt8->Bool
 |_,[]=>false
 | [],_::_=>true
 |a::x,b::y=>bif Nat.blt a.toNat b.toNat then true else bif Nat.beq a.toNat b.toNat then ltL x y else false
theorem blt_eq(a b:Nat):Nat.blt a b=decide (a<b):=by rw[HE];simp[HY]
theorem beq_eq(a b:Nat):Nat.beq a b=decide (a=b):=by rw[HE];simp[GL]
theorem AW:∀ (x y:List UInt8),ltL x y=Op.bytesLess x y
 | [],[]=>rfl
 |_::_,[]=>rfl
 | [],_::_=>rfl
 |a::x,b::y=>by simp only[ltL,Op.bytesLess,blt_eq,beq_eq,AW x y];by_cases c:a<b;have:a.toNat<b.toNat:=UInt8.lt_iff_toNat_lt.1 c;simp[this,c];have f:¬ a.toNat<b.toNat:=λh=>c (UInt8.lt_iff_toNat_lt.2 h);by_cases e:a=b;subst e;simp;have d:¬ a.toNat=b.toNat:=λh=>e (UInt8.toNat_inj.1 h);simp[c,e,f,d]
def strO(op:BinOp)(x y:List UInt8):Lj:=
 match op with
 | .add=>bif Nat.ble (x.length+y.length) 4611686018427387904 then some (.string (ao (x++y)))else none
 | .eql=>some (.bool (eqL x y))
 | .neq=>some (.bool (!eqL x y))
 | .lss=>some (.bool (ltL x y))
 | .leq=>some (.bool (ltL x y||eqL x y))
 | .gtr=>some (.bool (!(ltL x y||eqL x y)))
 | .geq=>some (.bool (!ltL x y))
 |_=>none
def gr(op:BinOp)(a b:Value):Lj:=
 match a,b with
 | .int .i64 x,.int .i64 y=>(match op with
   | .add=>let s:=x+y;bif fJ s then some (.int .i64 s)else none
   | .sub=>let s:=x-y;bif fJ s then some (.int .i64 s)else none
   | .mul=>let s:=x*y;bif fJ s then some (.int .i64 s)else none
   |op=>cmpI op x y)
 | .int .u8 x,.int .u8 y=>cmpI op x y
 | .string x,.string y=>strO op x.data.toList y.data.toList
 |_,_=>none
theorem gt{c:BinOp}{x:Operand}{k d:IntKind}{a b:Int}:(eqGuard c t x y (.int k a) (.int d b)).run P w=.ok () w:=by cases c<;>rfl
theorem qj{c:BinOp}{x:Operand}{a b:ByteArray}:(eqGuard c t x y (.string a) (.string b)).run P w=.ok () w:=by cases c<;>rfl
theorem xm{c:BinOp}{k:IntKind}{a b:Int}(h:cmpI c a b=some v):(binOp c t (.int k a) (.int k b)).run P w=.ok v w:=by unfold cmpI at h;split at h<;>simp only[osI,reduceCtorEq]at h<;>subst h<;>simp[binOp,Op.intCmp,bne]<;>first|rfl|exact beq_eq_decide _ _|skip
theorem kO(x y:ByteArray):x++y=ao (x.data.toList++y.data.toList):=by apply If;simp[ao]
theorem Cp{d:BinOp}{x y:ByteArray}(h:strO d x.data.toList y.data.toList=some v):(binOp d t (.string x) (.string y)).run P w=.ok v w:=by
 have f:(x.toList==y.toList)=eqL x.data.toList y.data.toList:=by rw[Jr,Jr,HE,dZ];simp
 have e:Op.bytesLess x.toList y.toList=ltL x.data.toList y.data.toList:=by rw[Jr,Jr,AW]
 unfold strO at h;split at h;cases a:Nat.ble (x.data.toList.length+y.data.toList.length) 4611686018427387904;rw[a]at h;simp at h;rw[a]at h;simp only[C',osI]at h;subst h;have a:=H9 a;have c:¬ (((x.size+y.size:Nat):Int)>IntKind.i64.max):=by have:x.size=x.data.toList.length:=rfl;have:y.size=y.data.toList.length:=rfl;simp only[IntKind.max,IntKind.signed,IntKind.bits];simp at*;omega
 simp only[binOp,Op.stringOp];rw[D' c,kO];rfl;all_goals first|(cases h;simp[binOp,Op.stringOp,f,e])|cases h
theorem tR{d:BinOp}{x:Operand}{a:Value}(h:gr d a b=some v):
 (do eqGuard d t x y a b;binOp d t a b).run P w=.ok v w:=by unfold gr at h;split at h;rename_i a b;simp only[GN,gt,GJ];split at h;cases c:fJ (a+b);simp[c]at h;simp only[c,C',osI]at h;subst h;simp[binOp,Op.intArith,cN c];cases c:fJ (a-b);simp[c]at h;simp only[c,C',osI]at h;subst h;simp[binOp,Op.intArith,cN c];cases c:fJ (a*b);simp[c]at h;simp only[c,C',osI]at h;subst h;simp[binOp,Op.intArith,cN c];exact xm h;simp only[GN,gt,GJ];exact xm h;simp only[GN,qj,GJ];exact Cp h;cases h
def vq(E:Env)(t:TypeId)(a b:Value):Bool:=
 match und E t with
 |some (.pointer _)=>(match a,b with| .pointer (some _),.pointer none=>true| .pointer none,.pointer (some _)=>true|_,_=>false)
 |some (.slice _)=>(match a,b with| .slice (some _) _ k,.slice none _ _=>Nat.blt k (unk+3)| .slice none _ _,.slice (some _) _ k=>Nat.blt k (unk+3)|_,_=>false)
 |some (.map _ _)=>(match a,b with| .map (some _),.map none=>true| .map none,.map (some _)=>true|_,_=>false)
 |some (.func _ _ _)=>(match a,b with| .func fn _ _,.nilFunc=>Fn.still fn| .nilFunc,.func fn _ _=>Fn.still fn|_,_=>false)
 |some (.interface _)=>(match a,b with| .iface _ _,.nilIface=>true| .nilIface,.iface _ _=>true|_,_=>false)
 |_=>false
theorem fh{a:Value}{x:Operand}(g:(Op.equal t a b).run P w=.ok r w)
 (d:(eqGuard .eql t x y a b).run P w=.ok () w) (c:(eqGuard .neq t x y a b).run P w=.ok () w)
 (f:binOp .eql t a b=do pure (.bool (<-Op.equal t a b))) (e:binOp .neq t a b=do pure (.bool (!(<-Op.equal t a b)))):
 (do eqGuard .eql t x y a b;binOp .eql t a b).run P w=.ok (.bool r) w/\(do eqGuard .neq t x y a b;binOp .neq t a b).run P w=.ok (.bool (!r)) w:=by constructor;rw[GN,d,GJ,f,GN,g];rfl;rw[GN,c,GJ,e,GN,g];rfl
theorem yZ(c:E.Ok){a:Value}(f:VR σ a a')(e:VR σ b b')(h:vq E t a b=true)(x y:Operand)(w:World):
 (do eqGuard .eql t x y a' b';binOp .eql t a' b').run E.P w=.ok (.bool false) w/\(do eqGuard .neq t x y a' b';binOp .neq t a' b').run E.P w=.ok (.bool true) w:=by unfold vq at h;split at h<;>rename_i d<;>(try (split at h))<;>(try (cases h;done))<;>cases f<;>cases e<;>(try (simp[Fn.still]at h;done))<;>(try (exfalso;rw[blt_eq,GQ]at h;omega))<;>exact fh (r:=false) (by unfold Op.equal Op.maxDepth;rw[show(10000:Nat)=9999+1 from rfl];unfold Op.equalIn;rw[GN,af c d,GJ];rfl) rfl rfl rfl rfl
def uE(E:Env)(t:TypeId)(a b:Value):Bool:=
 match und E t,a,b with
 |some (.pointer u),.pointer (some ⟨B,i,none⟩),.pointer (some ⟨B',i',none⟩)=>(match E.ti u with|some _=>Nat.beq B B'&&Nat.beq i i'|none=>false)
 |_,_,_=>false
theorem yo(e:E.Ok){a:Value}(p:VR σ a a')(o:VR σ b b')(h:uE E t a b=true)(x y:Operand)(w:World):
 (do eqGuard .eql t x y a' b';binOp .eql t a' b').run E.P w=.ok (.bool true) w/\(do eqGuard .neq t x y a' b';binOp .neq t a' b').run E.P w=.ok (.bool false) w:=by
 unfold uE at h;split at h;rename_i u B i C s m;split at h;rename_i j n;simp only[f',GL]at h;obtain⟨rfl,rfl⟩:=h;cases p with
 | ptr _ q=>
  cases o with
  |ptr _ f=>
  rw[q]at f;cases f;refine fh (r:=true) ?_ rfl rfl rfl rfl;rename_i l g z;have c:∀ d:Nat,(Op.equalIn (d+1) t (.pointer (some ⟨l,g+i,none⟩)) (.pointer (some ⟨l,g+i,none⟩))).run E.P w=.ok true w:=λd=>by simp[Op.equalIn,I5 (ce e m),sizeOf,typeInfo,e.ti _ _ n,run_sameAddr_same]
  exact c 9999
 cases h;cases h
def binA(E:Env)(op:BinOp)(t:TypeId)(x y:Operand)(a b:Value):Lj:=
 match gr op a b with
 |some v=>some v
 | none=>
   bif flat a&&flat b then(match prun E.P (do eqGuard op t x y a b;binOp op t a b)with|some v=>bif flat v then some v else none|none=>none)
   else bif vq E t a b then(match op with| .eql=>some (.bool false)| .neq=>some (.bool true)|_=>none)
   else bif uE E t a b then(match op with| .eql=>some (.bool true)| .neq=>some (.bool false)|_=>none)
   else none
theorem bin_ok(n:E.Ok){j:BinOp}{x:Operand}{a:Value}(i:VR σ a a')(g:VR σ b b')(h:binA E j t x y a b=some v)(w:World):
 ∃v',(do eqGuard j t x y a' b';binOp j t a' b').run E.P w=.ok v' w/\VR σ v v':=by
 unfold binA at h;split at h
 · rename_i u c;simp only[osI]at h;subst h;have m:flat a=true/\flat b=true/\flat u=true:=by
    unfold gr at c;split at c<;>try (cases c;done)
    · refine⟨rfl,rfl,?_⟩;split at c
      all_goals first
       |(simp only[cond_eq_ite]at c;split at c<;>simp only[osI,reduceCtorEq]at c;subst c;rfl)
       |(unfold cmpI at c;split at c<;>simp only[osI,reduceCtorEq]at c<;>subst c<;>rfl)
    refine⟨rfl,rfl,?_⟩;unfold cmpI at c;split at c<;>simp only[osI,reduceCtorEq]at c<;>subst c<;>rfl;· refine⟨rfl,rfl,?_⟩;unfold strO at c;split at c;simp only[cond_eq_ite]at c;split at c<;>simp only[osI,reduceCtorEq]at c;subst c;rfl;all_goals (simp only[osI,reduceCtorEq]at c<;>subst c<;>rfl)
   obtain⟨z,s,f⟩:=m;rw[cZ z i,cZ s g];exact⟨u,tR c,bI f σ⟩
 cases d:(flat a&&flat b)with
 |true=>rw[d]at h;simp only[C']at h;simp only[f']at d;split at h;rename_i u e;cases f:flat u;rw[f]at h;simp at h;rw[f]at h;simp only[C',osI]at h;subst h;rw[cZ d.1 i,cZ d.2 g];exact⟨u,ji e w,bI f σ⟩;cases h
 |false=>rw[d]at h;simp only[GT]at h;cases l:vq E t a b;rw[l]at h;simp only[GT]at h;cases e:uE E t a b;rw[e]at h;simp at h;rw[e]at h;simp only[C']at h;obtain⟨q,p⟩:=yo n i g e x y w;split at h;simp only[osI]at h;subst h;exact⟨_,q,.bool _⟩;simp only[osI]at h;subst h;exact⟨_,p,.bool _⟩;cases h;rw[l]at h;simp only[C']at h;have o:=yZ n i g l x y w;split at h;simp only[osI]at h;subst h;exact⟨_,o.1,.bool _⟩;simp only[osI]at h;subst h;exact⟨_,o.2,.bool _⟩;cases h
theorem kE(a b:ByteArray):(a==b)=eqL a.data.toList b.data.toList:=by rw[HE,dZ];constructor;intro h;cases a;cases b;have:(_:Array UInt8)==_:=h;simpa using this;intro h;have:a=b:=If h;subst this;cases a;show((_:Array UInt8)==_)=true;simp
def dm(a b:IntKind):Bool:=decide (a=b)
theorem fU(a b:Int):(a==b)=decide (a=b):=by rw[HE];simp
def eqV(E:Env)(t:TypeId)(a b:Value):Option Bool:=
 match a,b,und E t with
 | .int k x,.int k' y,some (.int _)=>bif dm k k' then some (decide (x=y))else none
 | .string x,.string y,some .string=>some (eqL x.data.toList y.data.toList)
 | .bool x,.bool y,some .bool=>some (x==y)
 |_,_,_=>none
def eqFs(E:Env)(xs ys:Lh):List Field->Option Bool
 | []=>some true
 | f::fs=>bif f.name== "_" then eqFs E xs ys fs else(match oh E f.type xs f.offset,oh E f.type ys f.offset with
   |some a,some b=>(match eqV E f.type a b,eqFs E xs ys fs with|some p,some q=>some (p&&q)|_,_=>none)
   |_,_=>none)
def Fm(E:Env)(op:BinOp)(t:TypeId)(xs ys:Lh):Lj:=
 match und E t with
 | some (.struct fs)=>bif E.P.stoodInHeld t then none else(match eqFs E xs ys fs.toList with
   |some b=>(match op with| .eql=>some (.bool b)| .neq=>some (.bool (!b))|_=>none)
   |none=>none)
 |_=>none
theorem wX(f:E.Ok){a:Value}(j:VR σ a a')(i:VR σ b b')(h:eqV E t a b=some r)(d:Nat)(w:World):
 (Op.equalIn (d+1) t a' b').run E.P w=.ok r w/\(Op.eqGuardIn (d+1) t a' b').run E.P w=.ok false w:=by
 unfold eqV at h;split at h;rename_i k x l y m c;cases j;cases i;cases g:dm k l;rw[g]at h;cases h;rw[g]at h;simp only[C',osI]at h;have e:k=l:=by simpa[dm]using g
 subst e;subst h;refine⟨?_,?_⟩;rw[run_equalIn_int w d t k m x y (ce f c),fU];simp[Op.eqGuardIn,af f c];rename_i x y c;cases j;cases i;cases h;refine⟨?_,?_⟩;rw[run_equalIn_string w d t x y (ce f c),<-beq_toListBytes,kE];simp[Op.eqGuardIn,af f c];rename_i x y c;cases j;cases i;cases h;refine⟨?_,?_⟩;rw[run_equalIn_bool' w d t x y (ce f c)];simp[Op.eqGuardIn,af f c];cases h
theorem ni{E:Env}(g:E.Ok){σ:Sig}{o n e c:Lh}(l:VRs σ o e)(j:VRs σ n c)(d:Nat)(w:World):∀ {fs:List Field}{r:Bool},eqFs E o n fs=some r->
 (Op.eqFields (d+1) ⟨e⟩ ⟨c⟩ fs).run E.P w=.ok r w
 | [],r,h=>by simp only[eqFs,osI]at h;subst h;simp[Op.eqFields]
 | f::fs,r,h=>by
  simp only[eqFs]at h;by_cases i:f.name= "_";simp only[i,beq_self_eq_true,C']at h;simp only[Op.eqFields,i,ne_eq,not_true_eq_false,HV];exact ni g l j d w h;have C:(f.name== "_")=false:=by simpa using i
  rw[C]at h;simp only[GT]at h;split at h;rename_i a b D m;split at h;rename_i p q B z;cases h;obtain⟨a',H,v1⟩:=eX g l D w;obtain⟨b',G,s⟩:=eX g j m w;obtain⟨F,_⟩:=wX g v1 s B d w;have u:=ni g l j d w z;simp only[Op.eqFields,ne_eq,i,not_false_eq_true,Ie,GN,H,G,F,GJ];cases p with
  |true=>simpa using u
  |false=>simp
  cases h;cases h
theorem Fl(g:E.Ok){n m e c:Lh}(B:VRs σ n e)(z:VRs σ m c)(d:Nat)(w:World){fs:Array Field}(s:und E t=some (.struct fs))(h:eqFs E n m fs.toList=some r):
 (Op.eqGuardIn (d+1+1) t (.agg ⟨e⟩) (.agg ⟨c⟩)).run E.P w=.ok false w:=by
 rw[Op.eqGuardIn];simp only[GN,af g s,GJ];rw[<-Array.forIn_toList];generalize fs.toList=l at h;clear s;induction l generalizing r with
 |nil=>simp
 |cons f l o=>
 simp only[List.forIn_cons,GN,Sem.run_ite];simp only[eqFs]at h;by_cases i:f.name= "_";simp only[i,beq_self_eq_true,C']at h;simp only[i,ne_eq,not_true_eq_false,HV,HB,GJ];simpa using o h;have F:(f.name== "_")=false:=by simpa using i
 rw[F]at h;simp only[GT]at h;split at h;rename_i a b G j;split at h;rename_i p q D C;obtain⟨a',J,v1⟩:=eX g B G w;obtain⟨b',I,u⟩:=eX g z j w;obtain⟨_,H⟩:=wX g v1 u D d w;simp only[ne_eq,i,not_false_eq_true,Ie,J,I,H,GJ,HO,HV,HB];simpa using o C;cases h;cases h
theorem zM(f:E.Ok){j i c a:Lh}(m:VRs σ j c)(l:VRs σ i a){d:BinOp}{x:Operand}(h:Fm E d t j i=some v):
 (do eqGuard d t x y (.agg ⟨c⟩) (.agg ⟨a⟩);binOp d t (.agg ⟨c⟩) (.agg ⟨a⟩)).run E.P w=.ok v w/\scal v=true:=by
 unfold Fm at h;split at h;rename_i u g;cases e:E.P.stoodInHeld t with
 |true=>rw[e]at h;cases h
 | false=>
  rw[e]at h;simp only[GT]at h;split at h;rename_i b s;have p:E.P.fieldsOf t=u:=by simp[Program.fieldsOf,ce f g]
  have q:(Op.equalIn 10000 t (.agg ⟨c⟩) (.agg ⟨a⟩)).run E.P w=.ok b w:=by rw[show(10000:Nat)=9998+1+1 from rfl,run_equalIn_struct w (9998+1) t _ _ (by rw[p];exact ce f g) e,p];exact ni f m l 9998 w s
  have o:∀ d,(eqGuard d t x y (.agg ⟨c⟩) (.agg ⟨a⟩)).run E.P w=.ok () w:=λd=>by cases n:E.P.eqGuardType E.P.depth t;exact run_eqGuard_agg w d t x y _ _ n;have:=Fl f m l 9998 w g s;cases d<;>simp[eqGuard,run_program,n,Op.maxDepth,this]
  split at h;cases h;exact⟨by rw[GN,o,GJ,run_eql_struct,q];rfl,rfl⟩;cases h;exact⟨by rw[GN,o,GJ,run_neq_struct,q];rfl,rfl⟩;cases h;cases h
 cases h
def eqIs(E:Env)(e:TypeId)(sz:Nat)(xs ys:Lh):Lg->Option Bool
 | []=>some true
 | j::js=>(match oh E e xs (j*sz),oh E e ys (j*sz)with
   |some a,some b=>(match eqV E e a b,eqIs E e sz xs ys js with|some p,some q=>some (p&&q)|_,_=>none)
   |_,_=>none)
theorem wZ{E:Env}(g:E.Ok){σ:Sig}{m l f c:Lh}(o:VRs σ m f)(n:VRs σ l c)(d:Nat)(w:World){e:TypeId}{sz:Nat}:∀ {js:Lg}{r:Bool},eqIs E e sz m l js=some r->
 (Op.eqItems (d+1) e sz ⟨f⟩ ⟨c⟩ js).run E.P w=.ok r w
 | [],r,h=>by simp only[eqIs,osI]at h;subst h;simp[Op.eqItems]
 | j::js,r,h=>by
  simp only[eqIs]at h;split at h;rename_i a b C i;split at h;rename_i p q B z;cases h;obtain⟨a',G,v1⟩:=eX g o C w;obtain⟨b',F,s⟩:=eX g n i w;obtain⟨D,_⟩:=wX g v1 s B d w;have u:=wZ g o n d w z;simp only[Op.eqItems,GN,G,F,D,GJ];cases p with
  |true=>simpa using u
  |false=>simp
  cases h;cases h
def eqK(E:Env)(kt:TypeId)(k key:Value):Option Bool:=
 match k,key with
 | .agg ⟨xs⟩,.agg ⟨ys⟩=>bif xs.all scal&&ys.all scal then(match und E kt with
   |some (.struct fs)=>bif E.P.stoodInHeld kt then none else eqFs E xs ys fs.toList
   |some (.array n e)=>(match E.ti e with|some ie=>eqIs E e ie.size xs ys (List.range n)|none=>none)
   |_=>none)else none
 |_,_=>none
theorem Fk(a:E.Ok){key:Value}{b:Bool}(h:eqK E kt k key=some b)(w:World):(Op.equal kt k key).run E.P w=.ok b w:=by
 unfold eqK at h;split at h;rename_i l j;cases d:(l.all scal&&j.all scal);rw[d]at h;cases h;rw[d]at h;simp only[C']at h;simp only[f']at d;have σ:Sig:=⟨λ_=>none,λ_=>none,λ_=>False⟩;have o:=bu d.1 σ;have m:=bu d.2 σ;split at h;rename_i s g;cases c:E.P.stoodInHeld kt with
 |true=>rw[c]at h;cases h
 | false=>
  rw[c]at h;simp only[GT]at h;have p:E.P.fieldsOf kt=s:=by simp[Program.fieldsOf,ce a g]
  show(Op.equalIn 10000 kt _ _).run E.P w=_;rw[show(10000:Nat)=9998+1+1 from rfl,run_equalIn_struct w (9998+1) kt _ _ (by rw[p];exact ce a g) c,p];exact ni a o m 9998 w h
 rename_i n e g;split at h;rename_i q f;show(Op.equalIn 10000 kt _ _).run E.P w=_;have i:E.P.cellsOf e=q.size:=by simp[Program.cellsOf,a.ti _ _ f]
 rw[show(10000:Nat)=9998+1+1 from rfl,run_equalIn_array w (9998+1) ⟨l⟩ ⟨j⟩ (ce a g) (a.ti _ _ f),i];exact wZ a o m 9998 w h;cases h;cases h;cases h
abbrev _root_.Go.JP:=@List.cons.injEq
abbrev _root_.Go.JF:=@Go.run_bytesToString
def jR(kind:TypeDesc)(a b:Value):Option Bool:=
 match kind,a,b with
 | .int _,.int k x,.int k' y=>if k=k' then some (decide (x=y))else none
 | .string,.string x,.string y=>some (eqL x.data.toList y.data.toList)
 | .bool,.bool x,.bool y=>some (x==y)
 |_,_,_=>none
theorem CN(kind:TypeDesc)(a b:Value):Instr.sameNow kind a b=jR kind a b:=by unfold Instr.sameNow jR;split;rename_i k x c y;by_cases h:k=c;simp only[h,Ie];rfl;simp only[h,HV];simp only[kE];rfl;rename_i g f d;split;exact absurd rfl (λe=>g _ _ _ _ _ rfl rfl e);exact absurd rfl (λe=>f _ _ rfl rfl e);exact absurd rfl (λe=>d _ _ rfl rfl e);rfl
def eH(kind:TypeDesc)(k:Value):Lc->Nat->Option (Option (Nat×Value))
 | [],_=>some none
 | (key,v,_)::es,i=>
   match jR kind k key with
   |some true=>some (some (i,v))
   |some false=>eH kind k es (i+1)
   |none=>none
theorem rW{σ:Sig}{kind:TypeDesc}{k:Value}:∀ {es:Lc}{a:List MapEntry}{i:Nat},ERs σ es a->
 (eH kind k es i=none->Instr.findNow kind k a i=none)/\(eH kind k es i=some none->Instr.findNow kind k a i=some none)/\
 (∀j v,eH kind k es i=some (some (j,v))->∃ v',Instr.findNow kind k a i=some (some (j,v'))/\VR σ v v')
 |_,_,i,.nil=>by simp[eH,Instr.findNow]
 | _,_,i,.cons (x:=x) (e:=e) h t=>by
  obtain⟨c,v,g⟩:=x;obtain⟨f,d,l⟩:=h;simp only at f d l;simp only[eH,Instr.findNow,CN,f];cases m:jR kind k c with
  |none=>simp
  |some b=>
  cases b with
  |true=>simp only[osI,GC,reduceCtorEq,false_implies,true_and];rintro j v' ⟨rfl,rfl⟩;exact⟨e.val,⟨rfl,rfl⟩,d⟩
  |false=>exact rW t
def oP(E:Env)(kt:TypeId)(k key:Value):Option Bool:=
 match eqK E kt k key with
 |some b=>some b
 |none=>prun E.P (Op.equal kt k key)
theorem wY(a:E.Ok){key:Value}{b:Bool}(h:oP E kt k key=some b)(w:World):(Op.equal kt k key).run E.P w=.ok b w:=by unfold oP at h;split at h;rename_i c d;cases h;exact Fk a d w;exact ji h w
def c7(E:Env)(kt:TypeId)(k:Value):Lc->Nat->Option (Option (Nat×Value))
 | [],_=>some none
 | (key,v,_)::es,i=>
   match oP E kt k key with
   |some true=>some (some (i,v))
   |some false=>c7 E kt k es (i+1)
   |none=>none
theorem rX{E:Env}(d:E.Ok){σ:Sig}{kt:TypeId}{k:Value}{w:World}:∀ {es:Lc}{a:List MapEntry}{i:Nat},ERs σ es a->
 (c7 E kt k es i=some none->(Instr.findAsking kt k a i).run E.P w=.ok none w)/\
 (∀j v,c7 E kt k es i=some (some (j,v))->∃ v',(Instr.findAsking kt k a i).run E.P w=.ok (some (j,v')) w/\VR σ v v')
 |_,_,i,.nil=>by simp[c7,Instr.findAsking]
 | _,_,i,.cons (x:=x) (e:=e) h t=>by
  obtain⟨c,v,l⟩:=x;obtain⟨g,f,n⟩:=h;simp only at g f n;simp only[c7,Instr.findAsking,g,GN];cases m:oP E kt k c with
  |none=>simp
  |some b=>
  rw[wY d m w];simp only[GJ];cases b with
  |true=>simp only[osI,GC,reduceCtorEq,false_implies,true_and,Ie];rintro j v' ⟨rfl,rfl⟩;exact⟨e.val,rfl,f⟩
  |false=>simp only[HO,HV];exact rX d t
def iK(E:Env)(kt:TypeId)(k:Value)(es:Lc):Option (Option (Nat×Value)):=
 match und E kt with
 | some kind=>(match eH kind k es 0 with
   |some r=>some r
   |none=>c7 E kt k es 0)
 |none=>none
theorem qe(d:E.Ok){es:Lc}{c:List MapEntry}(g:ERs σ es c)(w:World):
 (iK E kt k es=some none->(Instr.findKey kt k c).run E.P w=.ok none w)/\
 (∀j v,iK E kt k es=some (some (j,v))->∃ v',(Instr.findKey kt k c).run E.P w=.ok (some (j,v')) w/\VR σ v v'):=by
 unfold iK;cases e:und E kt with
 |none=>simp
 |some a=>
 simp only;obtain⟨m,l,h⟩:=rW (kind:=a) (k:=k) (i:=0) g;obtain⟨s,q⟩:=rX d (kt:=kt) (k:=k) (w:=w) (i:=0) g;cases f:eH a k es 0 with
 |none=>simp only[Instr.findKey,GN,af d e,GJ,m f];exact⟨s,q⟩
 |some r=>
 cases r with
 |none=>simp only[Instr.findKey,GN,af d e,GJ,l f];simp
 |some n=>obtain⟨j,v⟩:=n;obtain⟨v',p,o⟩:=h j v f;simp only[Instr.findKey,GN,af d e,GJ,p];simp only[osI,reduceCtorEq,false_implies,GC,true_and];rintro z u ⟨rfl,rfl⟩;exact⟨v',rfl,o⟩
def e7(E:Env)(emp:Bool)(kt:TypeId)(k:Value):Bool:=
 match und E kt with
 |some (.int _)|some .string|some .bool=>true
 |_=>(prun E.P (Instr.checkKey emp 10000 kt k)).isSome
theorem li(d:E.Ok){a:Bool}(h:e7 E a kt k=true)(w:World):(Instr.checkKey a 10000 kt k).run E.P w=.ok () w:=by
 unfold e7 at h;split at h
 all_goals first
  | (rename_i e
     rw[show(10000:Nat)=9999+1 from rfl]
     unfold Instr.checkKey
     rw[GN,af d e,GJ]
     rfl)
  | (cases c:prun E.P (Instr.checkKey a 10000 kt k)with
     |none=>rw[c]at h;simp at h
     |some u=>exact ji c w)
def gi (E :Env)(A:AH)(t:TypeId)(m k:Value)(commaOk:Bool):Lj:=
 match und E t with
 | some (.map kt et)=>bif flat k then
   (match(match m with
    | .map none=>some []
    | .map (some B)=>(match A.t.get B with|some (.map es _)=>some es|_=>none)
    |_=>none:Option Lc)with
   | some es=>bif e7 E es.isEmpty kt k then
     (match iK E kt k es with
     |some (some (_,v))=>some (bif commaOk then .tuple ⟨[v,.bool true]⟩else v)
     | some none=>(match E.ti et with
       | some i=>(match i.zero with
         |some z=>bif flat z then some (bif commaOk then .tuple ⟨[z,.bool false]⟩else z)else none
         |none=>none)
       |none=>none)
     |none=>none)else none
   |none=>none)else none
 |_=>none
theorem ow(R:Rel P σ A w){B:Nat}{es:Lc}{a:Nat}(h:A.t.get B=some (.map es a)):
 ∃b d c e,σ B=some (b,d,c)/\w.heap[b]? =some (.map e a)/\ERs σ es e.toList:=by obtain⟨b,d,c,i,e,g,f⟩:=R.obj B _ h rfl;exact⟨b,d,c,e,i,g,f⟩
theorem dH{b:Nat}{o:Obj}(h:w.heap[b]? =some o)(a:∀ c e f,o≠ .cells c e f):(getObj b).run P w=.ok o w:=by unfold getObj;cases o<;>first|exact absurd rfl (a _ _ _)|simp[Sem.run,h]
theorem ERs.isEmpty{l:Lc}{l':List MapEntry}(h:ERs σ l l'):l'.isEmpty=l.isEmpty:=by cases h<;>rfl
theorem ERs.length:∀ {l:Lc}{l':List MapEntry},ERs σ l l'->l'.length=l.length
 |_,_,.nil=>rfl
 |_,_,.cons _ t=>by simp[t.length]
def zf(kt et:TypeId)(k:Value)(cok:Bool)(es:Array MapEntry):Sem Value:=do
 Instr.checkKey es.isEmpty 10000 kt k
 let (v,ok) <-match <-Instr.findKey kt k es.toList with
  |some (_,v)=>pure (v,true)
  |none=>pure (<-zeroValue et,false)
 pure (if cok then .tuple #[v,.bool ok]else v)
theorem vD(p:E.Ok)(R:Rel E.P σ A w){m C o:Value}{f:Bool}(I:VR σ m C)(N:VR σ k o)(h:gi E A t m k f=some v):
 ∃v',(Instr.lookup t C o f).run E.P w=.ok v' w/\VR σ v v':=by
 unfold gi at h;split at h;rename_i kt et H;cases n:flat k;rw[n]at h;simp at h;rw[n]at h;simp only[C']at h;obtain rfl:=cZ n N;split at h;rename_i G a;cases l:e7 E G.isEmpty kt o;rw[l]at h;simp at h;rw[l]at h;simp only[C']at h;have s:∃ e:Array MapEntry,ERs σ G e.toList/\(Instr.lookup t C o f).run E.P w=(zf kt et o f e).run E.P w:=by
  split at a;cases a;cases I;exact⟨#[],.nil,by simp[Instr.lookup,zf,af p H];rfl⟩;rename_i B;split at a;rename_i a0 cl Q;cases a;obtain⟨b,d,c,e,K,V,U⟩:=ow R Q;cases I with
  |map D=>rw[D]at K;cases K;refine⟨e,U,?_⟩;simp[Instr.lookup,zf,af p H,dH V (by simp)];rfl
  cases a;cases a
 obtain⟨e,J,S⟩:=s;have q:e.isEmpty=G.isEmpty:=by rw[<-J.isEmpty];simp[Array.isEmpty,List.isEmpty_iff,HE]
 obtain⟨Z,Y⟩:=qe p J (kt:=kt) (k:=o) w;rw[S];unfold zf;simp only[GN,q,li p l,GJ];split at h;rename_i j u F;cases h;obtain⟨u',X,L⟩:=Y j u F;rw[X];simp only[GJ,HB];refine⟨_,rfl,?_⟩;cases f;exact L;exact .tuple (.cons L (.cons (.bool _) .nil));rename_i F;rw[Z F];simp only[GJ,GN];split at h;rename_i i O;split at h;rename_i z M;cases g:flat z;rw[g]at h;simp at h;rw[g]at h;simp only[C',osI]at h;subst h;rw[fq p O M];simp only[GJ,HB];refine⟨_,rfl,?_⟩;cases f;exact bI g σ;exact .tuple (.cons (bI g σ) (.cons (.bool _) .nil));cases h;cases h;cases h;cases h;cases h
def lenA(E:Env)(A:AH)(t:TypeId)(x:Value):Lj:=
 match und E t with
 |some .string=>(match x with| .string s=>some (.int .i64 s.size)|_=>none)
 |some (.array n _)=>some (.int .i64 n)
 |some (.slice _)=>(match x with| .slice _ n _=>some (.int .i64 n)|_=>none)
 | some (.map _ _)=>(match x with
   | .map none=>some (.int .i64 0)
   | .map (some B)=>(match A.t.get B with|some (.map es _)=>some (.int .i64 es.length)|_=>none)
   |_=>none)
 |some (.pointer e)=>(match und E e with|some (.array n _)=>some (.int .i64 n)|_=>none)
 |_=>none
theorem len_ok(f:E.Ok)(R:Rel E.P σ A w){ty:TypeId}(g:VR σ x x')(h:lenA E A t x=some v){ts:Array TypeId}(o:ts[0]? =some t){as:Array Value}(u:as[0]? =some x'):
 (Builtin.len_ ts ty as).run E.P w=.ok v w/\flat v=true:=by
 unfold lenA at h
 have F:Builtin.len_ ts ty as=(do
  match <-underlying t,x' with
  | .string,.string s=>pure (goInt s.size)
  | .array n _,_=>pure (goInt n)
  | .pointer arr,_=>
    let .array n _ <-underlying arr|stuck "len: pointer to array expected"
    pure (goInt n)
  | .slice _,.slice _ n _=>pure (goInt n)
  | .map _ _,.map none| .chan _ _,.chan none=>pure (goInt 0)
  | .map _ _,.map (some r)=>
    let .map entries _ <-getObj r|stuck "len: map expected"
    pure (goInt entries.size)
  | .chan _ _,.chan (some r)=>
    let .chan _ buf _ _ _ timer <-getObj r|stuck "len: channel expected"
    pure (goInt (if timer then 0 else buf.size))
  |_,_=>stuck "len: string, array, pointer to array, slice, map or channel expected"):=by
  unfold Builtin.len_
  rw[o,u]
  rfl
 rw[F];split at h;rename_i a;split at h;cases g;cases h;exact⟨by simp[af f a,goInt],rfl⟩;cases h;rename_i n e a;cases h;exact⟨by simp[af f a,goInt],rfl⟩;rename_i e a;split at h;cases h;cases g<;>exact⟨by simp[af f a,goInt],rfl⟩;cases h;rename_i kt G a;split at h;cases g;cases h;exact⟨by simp[af f a,goInt],rfl⟩;rename_i B;split at h;rename_i D I q;cases h;obtain⟨b,d,c,l,m,C,z⟩:=ow R q;cases g with
 | map i=>
  rw[i]at m;cases m;have p:l.size=D.length:=by have:=z.length;simpa using this
  exact⟨by simp[af f a,goInt,dH C (by simp),p],rfl⟩
 cases h;cases h;rename_i e a;split at h;rename_i n H j;cases h;refine⟨?_,rfl⟩;cases g<;>simp[af f a,af f j,goInt];cases h;cases h
def kG:Lh->Option (List UInt8)
 | []=>some []
 | .int .u8 n::l=>(match kG l with|some r=>some (UInt8.ofNat n.toNat::r)|none=>none)
 |_=>none
theorem sE{σ:Sig}:∀ {l l':Lh}{r:List UInt8},VRs σ l l'->kG l=some r->∃ ns:Le,l'=ns.map (Value.int .u8)/\r=ns.map λn=>UInt8.ofNat n.toNat
 |_,_,r,.nil,h=>by simp[kG]at h;subst h;exact⟨[],rfl,rfl⟩
 |_,_,r,.cons (v:=v) hv t,h=>by unfold kG at h;split at h;rename_i e;cases e;rename_i n l e;simp only[JP]at e;obtain⟨rfl,rfl⟩:=e;cases hv;split at h;rename_i c a;cases h;obtain⟨ns,rfl,rfl⟩:=sE t a;exact⟨n::ns,rfl,rfl⟩;cases h;cases h
theorem iI:∀ (ns:Le) (s:ByteArray),ns.foldl (λr n=>r.push (UInt8.ofNat n.toNat)) s=ao (s.data.toList++ns.map λn=>UInt8.ofNat n.toNat)
 | [],s=>by apply If;simp[ao]
 |n::ns,s=>by rw[Jt,iI ns];apply If;simp[ao]
def zT (E :Env)(A:AH)(src dst:TypeId)(x:Value):Lj:=
 match x with
 | .int _ n=>(match und E src,und E dst with
   | some _,some (.int k)=>(match k with
     | .i64=>bif fJ n then some (.int .i64 n)else some (.int .i64 (IntKind.i64.wrap n))
     |k=>some (.int k (k.wrap n)))
   |_,_=>(match prun E.P (convert src dst x)with|some v=>bif flat v then some v else none|none=>none))
 | .slice a n k=>(match und E src,und E dst with
   | some (.slice e),some .string=>(match und E e with
     | some (.int .u8)=>(match a with
       |none=>some (.string (ao []))
       | some ⟨B,o,none⟩=>bif Nat.beq n 0 then some (.string (ao []))else(match gj A B o n with
         |some l=>(match kG l with|some r=>some (.string (ao r))|none=>none)
         |none=>none)
       |_=>none)
     |_=>none)
   |_,_=>none)
 | .pointer (some ⟨B,o,none⟩)=>(match und E src,und E dst with
   | some (.pointer t),some .unsafePointer=>(match E.ti t,look A B with
     |some j,some c=>bif Nat.ble 1 j.size&&Nat.ble (o+1) c.length then some x else none
     |_,_=>none)
   | some .unsafePointer,some (.pointer u)=>(match E.ti u,A.t.get B with
     |some j,some (.cells c e)=>bif (Nat.beq e u&&Nat.beq o 0)&&(Nat.ble 1 j.size&&Nat.ble j.size c.length)then some x else none
     |_,_=>none)
   |_,_=>none)
 |x=>bif flat x then(match prun E.P (convert src dst x)with|some v=>bif flat v then some v else none|none=>none)else none
theorem pJ{e:TypeId}(d:P.cellsOf e≠0)(a n:Nat)(c:n<=a):liesAt P P.depth e a 0 e n=true:=by have hd:P.depth=(2*(P.types.size+Made.depth)+1)+1:=rfl;rw[hd];simp only[liesAt,HR];left;rw[hd];simp[rowAt,d,c,sameLayout]
theorem eW{s:Sem Value}(h:(match prun E.P s with|some v=>bif flat v then some v else none|none=>none)=some v)(w:World):s.run E.P w=.ok v w/\VR σ v v:=by split at h;rename_i u c;cases a:flat u;rw[a]at h;simp at h;rw[a]at h;simp only[C',osI]at h;subst h;exact⟨ji c w,bI a σ⟩;cases h
theorem FK(p:E.Ok)(R:Rel E.P σ A w){z G:TypeId}(H:VR σ x x')(h:zT E A z G x=some v):
 ∃v',(convert z G x').run E.P w=.ok v' w/\VR σ v v':=by
 unfold zT at h;split at h;rename_i k0 n;cases H;split at h;rename_i ds k s hd;have I:(convert z G (.int k0 n)).run E.P w=.ok (.int k (k.wrap n)) w:=by simp[convert,af p s,af p hd,Conv.intToInt]
 split at h;cases F:fJ n with
 |true=>rw[F]at h;simp only[C',osI]at h;subst h;rw[cN F]at I;exact⟨_,I,.int _ _⟩
 |false=>rw[F]at h;simp only[GT,osI]at h;subst h;exact⟨_,I,.int _ _⟩
 cases h;exact⟨_,I,.int _ _⟩;obtain⟨U,S⟩:=eW (σ:=σ) h w;exact⟨v,U,S⟩;rename_i a n k;split at h;rename_i e s hd;split at h;rename_i Q;split at h;cases h;cases H;refine⟨.string ByteArray.empty,?_,?_⟩;simp[convert,af p s,af p hd,af p Q,Conv.bytesToString];have:ByteArray.empty=ao []:=by apply If;rfl
 rw[this];exact .string _;rename_i B o;cases J:Nat.beq n 0 with
 | true=>
  rw[J]at h;simp only[C',osI]at h;subst h;obtain rfl:=Gy J;have D:∃ a' C,x'=.slice a' 0 C:=by cases H<;>exact⟨_,_,rfl⟩
  obtain⟨a',C,rfl⟩:=D;refine⟨.string ByteArray.empty,?_,?_⟩;cases a' with
  |none=>simp[convert,af p s,af p hd,af p Q,Conv.bytesToString]
  |some a'=>simp only[convert,GN,af p s,af p hd,GJ,af p Q];have:=JF (P:=E.P) w a' 0 C [] (by simp[loadCells,loadCellsFrom]);simpa using this
  have:ByteArray.empty=ao []:=by apply If;rfl
  rw[this];exact .string _
 | false=>
  rw[J]at h;simp only[GT]at h;have L:=aW J;split at h;rename_i l M;split at h;rename_i r I;cases h;have D:∃ b d c C,σ B=some (b,d,c)/\x'=.slice (some ⟨b,d+o,none⟩) n C:=by
   cases H with
   |slice i' V X f hk=>exact⟨_,_,_,_,f,rfl⟩
   |sliceU V f J=>exact⟨_,_,_,_,f,rfl⟩
   |sliceV i' V X f J=>exact⟨_,_,_,_,f,rfl⟩
   |sliceE a a' X=>exact absurd rfl L
   |gs0=>exact absurd rfl L
   |gs lo o' V X m f hk hc ho hm=>exact⟨_,_,_,_,f,rfl⟩
  obtain⟨b,d,c,C,f,rfl⟩:=D;obtain⟨l',g1,g2⟩:=ld R M f;obtain⟨ns,rfl,rfl⟩:=sE g1 I;refine⟨_,?_,.string _⟩;simp only[convert,GN,af p s,af p hd,GJ,af p Q];rw[JF (P:=E.P) w _ n C ns g2,iI];rfl;cases h;cases h
 cases h;cases h;cases h;rename_i B o;cases H with
 | ptr _ f=>
  rename_i b d k;split at h;rename_i t s hd;split at h;rename_i j c O M;simp only[cond_eq_ite,f',GO]at h;split at h;rename_i hc;cases h;obtain⟨b2,d2,k2,v',q,i,_⟩:=gK R M (E' (show o<c.length by omega));rw[f]at q;cases q;refine⟨_,?_,.ptr o f⟩;unfold World.cell? at i;split at i;rename_i cs e fz hb;have Y:d+o<cs.size:=by rcases Hg (d+o) cs.size with K|K;exact K;rw[He K]at i;cases i
  exact Lib.run_to_unsafe w ⟨b,d+o,none⟩ (ce p s) (ce p hd) (p.ti _ _ O) (by omega) (e:=e) (cells:=cs.size) (by simp[World.shape?,hb]) Y;cases i;cases h;cases h;rename_i u s hd;split at h;rename_i j c e O M;simp only[cond_eq_ite,f',GO,GL]at h;split at h;rename_i hc;cases h;obtain⟨⟨rfl,rfl⟩,U,S⟩:=hc;obtain⟨b2,d2,k2,q,c',lo,hi,hb,_,a1,_,a0⟩:=R.obj B _ M rfl;rw[f]at q;cases q;subst a0;refine⟨_,?_,.ptr 0 f⟩;have a2:c.length<=c'.size:=by rcases Nat.eq_zero_or_pos c.length with h0|h0;omega;obtain⟨v',g,_⟩:=a1 (c.length-1) _ (E' (show c.length-1<c.length by omega));rcases Hg (0+(c.length-1)) c'.size with K|K;omega;rw[He K]at g;cases g
  have N:E.P.cellsOf e=j.size:=by simp[Program.cellsOf,p.ti _ _ O]
  refine Lib.run_from_unsafe w ⟨b,0+0,none⟩ (ce p s) (ce p hd) (p.ti _ _ O) (e:=e) (cells:=c'.size) (by simp[World.shape?,hb]) ?_;refine pJ (by rw[N];omega) _ _ ?_;rw[N,Nat.le_div_iff_mul_le (by omega)];omega;cases h;cases h;cases h
 cases Z:flat x;rw[Z]at h;simp at h;rw[Z]at h;simp only[C']at h;obtain rfl:=cZ Z H;obtain⟨U,S⟩:=eW (σ:=σ) h w;exact⟨v,U,S⟩
end
end Go.AM
