/- A part of the proof. -/
import Derived.Calls
import Derived.Orders
import Derived.LoopN
import Derived.Below
import Derived.Laws.Sem
import Derived.Laws.Cells
import Derived.Laws.Entries
import Derived.Laws.Strings
import Derived.Laws.Tables
import Derived.Laws.BytesString
import Derived.Lib.Strings
import Derived.LaidEqlPtr
import Derived.Lib.Builder
import Derived.Laws.StructEq
import Derived.ChangeKeysEq
set_option linter.unusedVariables false
set_option linter.unusedSimpArgs false
abbrev _root_.Go.Ir:=@Bool.eq_iff_iff
theorem _root_.Go.Hy:type_of% @Nat.beq_eq:=@Nat.beq_eq
abbrev _root_.Go.IZ:=@decide_true
abbrev _root_.Go.IV:=@decide_false
abbrev _root_.Go.Jt:=@if_true
abbrev _root_.Go.I2:=@if_false
abbrev _root_.Go.Hm:=@if_neg
abbrev _root_.Go.Ht:=@if_pos
theorem _root_.Go.IP:type_of% @Nat.lt_or_ge:=@Nat.lt_or_ge
abbrev _root_.Go.Jz:=@List.all_cons
abbrev _root_.Go.f':=@Bool.and_eq_true
theorem Go.osI{c :Type _}{a b: c}:(some a=some b)=(a=b):=Option.some.injEq a b
theorem Go.odt{p:Prop}[Decidable p](h:decide p=true):p:=of_decide_eq_true h
theorem Go.odf{p:Prop}[Decidable p](h:decide p=false):¬ p:=of_decide_eq_false h
abbrev Go.La:=List (List Int)
abbrev Go.Lb:=List (List Go.Value)
abbrev Go.Lc:=List (Go.Value×Go.Value×Nat)
abbrev Go.Ld:=List (Nat×Nat)
abbrev Go.Le:=List Int
abbrev Go.Lg:=List Nat
abbrev Go.Lh:=List Go.Value
abbrev Go.Li:=List Bool
abbrev Go.Lj:=Option Go.Value
abbrev Go.Lk:=Option Nat
abbrev Go.Ll:=Option Prop
namespace Go.AM
inductive T (α :Type)where
 |leaf:T α
 |node:T α ->Option α ->T α ->T α
 |fn:(Nat->Option α)->T α
namespace T
variable {α :Type}
noncomputable def get(t:T α):Nat->Option α :=
 T.rec (motive:=λ_=>Nat->Option α) (λ_=>none)
  (λ_ v _ ihl ihr k=>Bool.rec (motive:=λ_=>Option α) (Bool.rec (motive:=λ_=>Option α) (ihr (Nat.sub (Nat.div k 2) 1)) (ihl (Nat.div k 2)) (Nat.beq (Nat.mod k 2) 1)) v (Nat.beq k 0)) (λg k=>g k) t
noncomputable def mapL(v:Option α)(r:T α)(o:Option (T α)):Option (T α):=Option.rec (motive:=λ_=>Option (T α)) none (λl=>some (node l v r)) o
noncomputable def mapR(l:T α)(v:Option α)(o:Option (T α)):Option (T α):=Option.rec (motive:=λ_=>Option (T α)) none (λr=>some (node l v r)) o
noncomputable def setAt(ih:T α ->Nat-> α ->Option (T α))(l:T α)(v:Option α)(r:T α)(k:Nat)(x: α):Option (T α):=
 Bool.rec (motive:=λ_=>Option (T α)) (Bool.rec (motive:=λ_=>Option (T α)) (mapR l v (ih r (Nat.sub (Nat.div k 2) 1) x)) (mapL v r (ih l (Nat.div k 2) x)) (Nat.beq (Nat.mod k 2) 1)) (some (node l (some x) r)) (Nat.beq k 0)
noncomputable def set(f:Nat):T α ->Nat-> α ->Option (T α):=
 Nat.rec (motive:=λ_=>T α ->Nat-> α ->Option (T α)) (λ_ _ _=>none)
  (λ_ ih t k x=>T.rec (motive:=λ_=>Option (T α)) (setAt ih leaf none leaf k x) (λl v r _ _=>setAt ih l v r k x) (λg=>some (fn λj=>Bool.rec (motive:=λ_=>Option α) (g j) (some x) (Nat.beq j k))) t) f
theorem get_fn(g:Nat->Option α)(k:Nat):(fn g).get k=g k:=rfl
theorem set_fn(f:Nat)(g:Nat->Option α)(k:Nat)(x: α):set (f+1) (fn g) k x=some (fn λj=>Bool.rec (motive:=λ_=>Option α) (g j) (some x) (Nat.beq j k)):=rfl
theorem get_leaf(k:Nat):(leaf:T α).get k=none:=rfl
theorem get_node(l:T α)(v:Option α)(r:T α)(k:Nat):
 (node l v r).get k=if k=0 then v else if k%2=1 then l.get (k/2)else r.get (k/2-1):=by
 have c:Nat.beq k 0=decide (k=0):=by rw[Ir];simp[Hy]
 have b:Nat.beq (k%2) 1=decide (k%2=1):=by rw[Ir];simp[Hy]
 show Bool.rec (motive:=λ_=>Option α) (Bool.rec (motive:=λ_=>Option α) (r.get (k/2-1)) (l.get (k/2)) (Nat.beq (k%2) 1)) v (Nat.beq k 0)=_;rw[c,b];by_cases h:k=0;simp[h];by_cases a:k%2=1<;>simp[h,a]
theorem setAt_eq(f:Nat)(l:T α)(v:Option α)(r:T α)(k:Nat)(x: α):
 setAt (set f) l v r k x=(if k=0 then some (node l (some x) r)else if k%2=1 then(match set f l (k/2) x with|some l'=>some (node l' v r)|none=>none)
       else(match set f r (k/2-1) x with|some b=>some (node l v b)|none=>none)):=by
 have d:Nat.beq k 0=decide (k=0):=by rw[Ir];simp[Hy]
 have c:Nat.beq (k%2) 1=decide (k%2=1):=by rw[Ir];simp[Hy]
 show Bool.rec (motive:=λ_=>Option (T α)) (Bool.rec (motive:=λ_=>Option (T α)) (mapR l v (set f r (k/2-1) x)) (mapL v r (set f l (k/2) x)) (Nat.beq (k%2) 1)) (some (node l (some x) r)) (Nat.beq k 0)=_;rw[d,c];by_cases h:k=0;simp[h];by_cases a:k%2=1;simp only[h,a,IZ,IV,Jt,I2];cases set f l (k/2) x<;>rfl;simp only[h,a,IV,I2];cases set f r (k/2-1) x<;>rfl
theorem set_node(f:Nat)(l:T α)(v:Option α)(r:T α)(k:Nat)(x: α):set (f+1) (node l v r) k x=setAt (set f) l v r k x:=rfl
theorem get_set{f:Nat}:∀ {t b:T α}{k:Nat}{x: α},set f t k x=some b->∀ j,b.get j=if j=k then some x else t.get j:=by
 induction f with
 |zero=>intro t b k x h;cases h
 |succ f i=>
 intro t b k x h j
 have c:∀ (l r:T α) (v:Option α),
  (if k=0 then some (node l (some x) r)else if k%2=1 then(match set f l (k/2) x with|some e=>some (node e v r)|none=>none)
   else(match set f r (k/2-1) x with|some d=>some (node l v d)|none=>none))=some b->
  b.get j=if j=k then some x else(node l v r).get j:=by
  intro l r v h
  by_cases n:k=0
  · subst n
    simp only[Jt,osI]at h
    grind [get_node]
  · rw [Hm n]at h
    by_cases m:k%2=1
    · rw [Ht m]at h
      cases a:set f l (k/2) x with
      |none=>simp[a]at h
      | some e=>
        simp only[a,osI]at h
        subst h
        rw[get_node,get_node,i a]
        grind
    · rw [Hm m]at h
      cases a:set f r (k/2-1) x with
      |none=>simp[a]at h
      | some d=>
        simp only[a,osI]at h
        subst h
        rw[get_node,get_node,i a]
        grind
 cases t with
 |leaf=>have p:=c leaf leaf none (by rw[<-setAt_eq];exact h);rw[p,get_node];simp[get_leaf]
 |node l v r=>exact c l r v (by rw[<-setAt_eq];exact h)
 |fn g=>
 rw[set_fn]at h;cases h;rw[get_fn,get_fn];have q:Nat.beq j k=decide (j=k):=by rw[Ir];simp[Hy]
 rw[q];by_cases o:j=k<;>simp[o]
noncomputable def setFn:Li->T α ->(Nat->Option α)->Option (T α)
 | [],leaf,g=>some (fn g)
 | [],fn _,g=>some (fn g)
 | [],node ..,_=>none
 |true::p,leaf,g=>mapL none leaf (setFn p leaf g)
 |true::p,node l v r,g=>mapL v r (setFn p l g)
 |false::p,leaf,g=>mapR leaf none (setFn p leaf g)
 |false::p,node l v r,g=>mapR l v (setFn p r g)
 |_::_,fn _,_=>none
noncomputable def getFn:Li->T α ->Option (Nat->Option α)
 | [],leaf=>some λ_=>none
 | [],fn g=>some g
 | [],node .. =>none
 |_::_,leaf=>some λ_=>none
 |true::p,node l _ _=>getFn p l
 |false::p,node _ _ r=>getFn p r
 |_::_,fn _=>none
def numF:Li->Nat->Nat
 | [],i=>i
 |true::p,i=>2*numF p i+1
 |false::p,i=>2*numF p i+2
def unF:Li->Nat->Nat
 | [],k=>k
 |true::p,k=>unF p (k/2)
 |false::p,k=>unF p (k/2-1)
theorem unF_numF:∀ (p:Li) (i:Nat),unF p (numF p i)=i
 | [],i=>rfl
 |true::p,i=>by show unF p ((2*numF p i+1)/2)=i;rw[show(2*numF p i+1)/2=numF p i by omega];exact unF_numF p i
 |false::p,i=>by show unF p ((2*numF p i+2)/2-1)=i;rw[show(2*numF p i+2)/2-1=numF p i by omega];exact unF_numF p i
theorem numF_inj:∀ (p:Li) {i j:Nat},numF p i=numF p j->i=j
 | [],i,j,h=>h
 |true::p,i,j,h=>numF_inj p (by simp only[numF]at h;omega)
 |false::p,i,j,h=>numF_inj p (by simp only[numF]at h;omega)
theorem cM(l:T α)(v:Option α)(r:T α)(k:Nat):(node l v r).get (2*k+1)=l.get k:=by rw[get_node,Hm (by omega),Ht (by omega)];congr 1;omega
theorem cr(l:T α)(v:Option α)(r:T α)(k:Nat):(node l v r).get (2*k+2)=r.get k:=by rw[get_node,Hm (by omega),Hm (by omega)];congr 1;omega
theorem getFn_ok:∀ {p:Li}{t:T α}{g:Nat->Option α},getFn p t=some g->∀ i,t.get (numF p i)=g i
 | [],leaf,g,h,i=>by simp only[getFn,osI]at h;subst h;rfl
 | [],fn _,g,h,i=>by simp only[getFn,osI]at h;subst h;rfl
 | [],node ..,g,h,i=>by cases h
 |true::p,leaf,g,h,i=>by simp only[getFn,osI]at h;subst h;rfl
 |false::p,leaf,g,h,i=>by simp only[getFn,osI]at h;subst h;rfl
 |true::p,node l v r,g,h,i=>by show(node l v r).get (2*numF p i+1)=_;rw[cM];exact getFn_ok (p:=p) h i
 |false::p,node l v r,g,h,i=>by show(node l v r).get (2*numF p i+2)=_;rw[cr];exact getFn_ok (p:=p) h i
 |true::p,fn _,g,h,i=>by cases h
 |false::p,fn _,g,h,i=>by cases h
def InF(p:Li)(k:Nat):Prop:=∃ i,k=numF p i
theorem setFn_in:∀ {p:Li}{t a:T α}{g:Nat->Option α},setFn p t g=some a->∀ i,a.get (numF p i)=g i
 | [],leaf,a,g,h,i=>by simp only[setFn,osI]at h;subst h;rfl
 | [],fn _,a,g,h,i=>by simp only[setFn,osI]at h;subst h;rfl
 | [],node ..,a,g,h,i=>by cases h
 | true::p,leaf,a,g,h,i=>by
  simp only[setFn]at h;cases b:setFn p leaf g with
  |none=>rw[b]at h;cases h
  |some l=>rw[b]at h;have h:some (node l none leaf)=some a:=h;cases h;show(node l none leaf).get (2*numF p i+1)=_;rw[cM];exact setFn_in b i
 | false::p,leaf,a,g,h,i=>by
  simp only[setFn]at h;cases b:setFn p leaf g with
  |none=>rw[b]at h;cases h
  |some r=>rw[b]at h;have h:some (node leaf none r)=some a:=h;cases h;show(node leaf none r).get (2*numF p i+2)=_;rw[cr];exact setFn_in b i
 | true::p,node l v r,a,g,h,i=>by
  simp only[setFn]at h;cases b:setFn p l g with
  |none=>rw[b]at h;cases h
  |some d=>rw[b]at h;have h:some (node d v r)=some a:=h;cases h;show(node d v r).get (2*numF p i+1)=_;rw[cM];exact setFn_in b i
 | false::p,node l v r,a,g,h,i=>by
  simp only[setFn]at h;cases b:setFn p r g with
  |none=>rw[b]at h;cases h
  |some c=>rw[b]at h;have h:some (node l v c)=some a:=h;cases h;show(node l v c).get (2*numF p i+2)=_;rw[cr];exact setFn_in b i
 |true::p,fn _,a,g,h,i=>by cases h
 |false::p,fn _,a,g,h,i=>by cases h
theorem fO(k:Nat):k=0∨(∃j,k=2*j+1)∨∃ j,k=2*j+2:=by rcases IP k 1 with h|h;exact .inl (by omega);rcases Nat.mod_two_eq_zero_or_one k with a|a;exact .inr (.inr ⟨k/2-1,by omega⟩);exact .inr (.inl ⟨k/2,by omega⟩)
theorem setFn_out:∀ {p:Li}{t b:T α}{g:Nat->Option α},setFn p t g=some b->∀ k,¬InF p k->b.get k=t.get k
 | [],t,b,g,h,k,hk=>absurd ⟨k,rfl⟩ hk
 |true::p,fn _,b,g,h,k,hk=>by cases h
 |false::p,fn _,b,g,h,k,hk=>by cases h
 | true::p,leaf,b,g,h,k,hk=>by
  simp only[setFn]at h;cases a:setFn p leaf g with
  |none=>rw[a]at h;cases h
  |some l=>rw[a]at h;have h:some (node l none leaf)=some b:=h;cases h;rcases fO k with rfl|⟨j,rfl⟩|⟨j,rfl⟩;rfl;rw[cM];exact setFn_out a j λ⟨i,e⟩=>hk ⟨i,by rw[e];rfl⟩;rw[cr];rfl
 | false::p,leaf,b,g,h,k,hk=>by
  simp only[setFn]at h;cases a:setFn p leaf g with
  |none=>rw[a]at h;cases h
  |some r=>rw[a]at h;have h:some (node leaf none r)=some b:=h;cases h;rcases fO k with rfl|⟨j,rfl⟩|⟨j,rfl⟩;rfl;rw[cM];rfl;rw[cr];exact setFn_out a j λ⟨i,e⟩=>hk ⟨i,by rw[e];rfl⟩
 | true::p,node l v r,b,g,h,k,hk=>by
  simp only[setFn]at h;cases a:setFn p l g with
  |none=>rw[a]at h;cases h
  |some d=>rw[a]at h;have h:some (node d v r)=some b:=h;cases h;rcases fO k with rfl|⟨j,rfl⟩|⟨j,rfl⟩;rfl;rw[cM,cM];exact setFn_out a j λ⟨i,e⟩=>hk ⟨i,by rw[e];rfl⟩;rw[cr,cr]
 | false::p,node l v r,b,g,h,k,hk=>by
  simp only[setFn]at h;cases a:setFn p r g with
  |none=>rw[a]at h;cases h
  |some c=>rw[a]at h;have h:some (node l v c)=some b:=h;cases h;rcases fO k with rfl|⟨j,rfl⟩|⟨j,rfl⟩;rfl;rw[cM,cM];rw[cr,cr];exact setFn_out a j λ⟨i,e⟩=>hk ⟨i,by rw[e];rfl⟩
end T
structure Sig where
 f:Nat->Option (Nat×Nat×Nat)
 ro:Nat->Option Obj
 nl:Nat->Prop
instance:CoeFun Sig (λ_=>Nat->Option (Nat×Nat×Nat)):=⟨Sig.f⟩
structure Sig.sub (σ σ':Sig):Prop where
 f:∀ B x,σ B=some x->σ' B=some x
 ro:∀ b o,σ.ro b=some o->σ'.ro b=some o
def ap(a:Lh):Lh:=a.flatMap λx=>x.cells.toList
def unk:Nat:=18446744073709551616
def gsz(m:Nat):Nat:=m%18446744073709551616-3
def Fn.still:Fn->Bool
 | .yield _=>false
 |_=>true
mutual
inductive VR (σ:Sig):Value->Value->Prop
 |bool (b:Bool):VR σ (.bool b) (.bool b)
 |int (k:IntKind) (n:Int):VR σ (.int k n) (.int k n)
 |float (k:FloatKind) (n:Nat):VR σ (.float k n) (.float k n)
 |complex (k:FloatKind) (m n:Nat):VR σ (.complex k m n) (.complex k m n)
 |string (s:ByteArray):VR σ (.string s) (.string s)
 |ptr0:VR σ (.pointer none) (.pointer none)
 |ptr {B b d c:Nat}(i:Nat) (h:σ B=some (b,d,c)):VR σ (.pointer (some ⟨B,i,none⟩)) (.pointer (some ⟨b,d+i,none⟩))
 |slice0 (n k:Nat):VR σ (.slice none n k) (.slice none n k)
 |slice {B b d c:Nat}(i n k:Nat) (h:σ B=some (b,d,c)) (hk:k<unk):VR σ (.slice (some ⟨B,i,none⟩) n k) (.slice (some ⟨b,d+i,none⟩) n k)
 |sliceU {B b d c:Nat}(n:Nat) (h:σ B=some (b,d,c)) (hn:n<=c):VR σ (.slice (some ⟨B,0,none⟩) n unk) (.slice (some ⟨b,d,none⟩) n c)
 |sliceV {B b d c:Nat}(i n k:Nat) (h:σ B=some (b,d,c)) (hn:n<=k):VR σ (.slice (some ⟨B,i,none⟩) n (unk+1)) (.slice (some ⟨b,d+i,none⟩) n k)
 |sliceE (a a':Addr) (k:Nat):VR σ (.slice (some a) 0 (unk+2)) (.slice (some a') 0 k)
 |gs0 (B o m:Nat) (a:Option Addr) (hm:unk+3<=m):VR σ (.slice (some ⟨B,o,none⟩) 0 m) (.slice a 0 0)
 |gs {B b d c:Nat}(lo o n k m:Nat) (h:σ B=some (b,d,c)) (hn:n<=k) (hc:lo+k<=c) (ho:o=lo*gsz m) (hm:unk+3<=m):VR σ (.slice (some ⟨B,o,none⟩) n m) (.slice (some ⟨b,d+o,none⟩) n k)
 |map0:VR σ (.map none) (.map none)
 |map {B b d c:Nat}(h:σ B=some (b,d,c)):VR σ (.map (some B)) (.map (some b))
 |chan0:VR σ (.chan none) (.chan none)
 |func (fn:Fn) {xs ys xs' ys':Lh}(hf:Fn.still fn=true) (hx:VRs σ xs xs') (hy:VRs σ ys ys'):VR σ (.func fn ⟨xs⟩ ⟨ys⟩) (.func fn ⟨xs'⟩ ⟨ys'⟩)
 |func0:VR σ .nilFunc .nilFunc
 |iface (t:TypeId) {v v':Value}(h:VR σ v v'):VR σ (.iface t v) (.iface t v')
 |iface0:VR σ .nilIface .nilIface
 |agg {xs xs':Lh}(h:VRs σ xs xs'):VR σ (.agg ⟨xs⟩) (.agg ⟨xs'⟩)
 |tuple {xs xs':Lh}(h:VRs σ xs xs'):VR σ (.tuple ⟨xs⟩) (.tuple ⟨xs'⟩)
 |dat {b o k sz:Nat}{e:TypeId}{fz:Nat×Nat}{c:Array Value}{els:Lh}(hro:σ.ro b=some (.cells c e fz)) (hsz:∀ x∈els,x.cells.size=sz) (hk:els.length<=k) (h:VRs σ (ap els) ((c.toList.drop o).take (els.length*sz))):VR σ (.func (.yield sz) ⟨els⟩ ⟨[]⟩) (.slice (some ⟨b,o,none⟩) els.length k)
 |datN (sz:Nat):VR σ (.func (.yield sz) ⟨[]⟩ ⟨[]⟩) (.slice none 0 0)
 |datE (sz:Nat) (a:Addr) (k:Nat):VR σ (.func (.yield sz) ⟨[]⟩ ⟨[]⟩) (.slice (some a) 0 k)
 |gp {B b d c:Nat}(sz i j:Nat) (h:σ B=some (b,d,c)):VR σ (.func (.yield sz) ⟨[.pointer (some ⟨B,0,none⟩)]⟩ ⟨[.int .i64 i,.int .i64 j,.bool true]⟩) (.pointer (some ⟨b,d+i*sz+j,none⟩))
 |datP {b o sz i j:Nat}{e:TypeId}{fz:Nat×Nat}{c:Array Value}{els:Lh}(hro:σ.ro b=some (.cells c e fz)) (hsz:∀ x∈els,x.cells.size=sz) (hi:i<els.length) (hj:j<sz) (h:VRs σ (ap els) ((c.toList.drop o).take (els.length*sz))):VR σ (.func (.yield sz) ⟨els⟩ ⟨[.int .i64 i,.int .i64 j]⟩) (.pointer (some ⟨b,o+i*sz+j,none⟩))
inductive VRs (σ:Sig):Lh->Lh->Prop
 |nil:VRs σ [] []
 |cons {v v':Value}{l l':Lh}(h:VR σ v v') (t:VRs σ l l'):VRs σ (v::l) (v'::l')
end
variable {σ:Sig}{v v':Value}
theorem VR.mono{σ':Sig}(a:σ.sub σ')(h:VR σ v v'):VR σ' v v':=
 VR.rec (motive_1:=λv v' _=>VR σ' v v') (motive_2:=λl q _=>VRs σ' l q)
  VR.bool VR.int VR.float VR.complex VR.string VR.ptr0 (λi h=>.ptr i (a.f _ _ h)) VR.slice0 (λi n k h e=>.slice i n k (a.f _ _ h) e)
  (λn h d=>.sliceU n (a.f _ _ h) d) (λi n k h d=>.sliceV i n k (a.f _ _ h) d) VR.sliceE VR.gs0 (λp o n k m h d A u w=>.gs p o n k m (a.f _ _ h) d A u w) VR.map0 (λh=>.map (a.f _ _ h)) VR.chan0
  (λB _ _ _ _ z _ _ s r=>.func B z s r) VR.func0 (λt _ _ _ h=>.iface t h) VR.iface0 (λ_ h=>.agg h) (λ_ h=>.tuple h)
  (λc b e _ h=>.dat (a.ro _ _ c) b e h) VR.datN VR.datE (λg i j h=>.gp g i j (a.f _ _ h)) (λc b y x _ h=>.datP (a.ro _ _ c) b y x h)
  VRs.nil (λ_ _ h t=>.cons h t) h
theorem VRs.mono{σ':Sig}(a:σ.sub σ'):∀ {l l':Lh},VRs σ l l'->VRs σ' l l'
 |_,_,.nil=>.nil
 |_,_,.cons h t=>.cons (h.mono a) (t.mono a)
theorem VRs.length:∀ {l l':Lh},VRs σ l l'->l'.length=l.length
 |_,_,.nil=>rfl
 |_,_,.cons _ t=>by simp[t.length]
theorem VRs.get:∀ {l l':Lh},VRs σ l l'->∀ {i:Nat}{v:Value},l[i]? =some v->∃ v',l'[i]? =some v'/\VR σ v v'
 |_,_,.nil,i,v,h=>by simp at h
 | _,_,.cons hv t,i,v,h=>by
  cases i with
  |zero=>grind
  |succ i=>simp at h;obtain⟨v',b,a⟩:=t.get h;exact⟨v',by simpa using b,a⟩
theorem VRs.of_get:∀ {l l':Lh},l'.length=l.length->(∀(i:Nat) v,l[i]? =some v->∃ v',l'[i]? =some v'/\VR σ v v')->VRs σ l l'
 | [],[],_,_=>.nil
 | [],_::_,h,_=>by simp at h
 |_::_,[],h,_=>by simp at h
 |v::l,v'::l',hl,h=>by obtain⟨u,a,b⟩:=h 0 v (by simp);simp at a;subst a;refine .cons b (VRs.of_get (by simpa using hl) λi x c=>?_);obtain⟨u,a,b⟩:=h (i+1) x (by simpa using c);exact⟨u,by simpa using a,b⟩
theorem VRs.append:∀ {l l' m a:Lh},VRs σ l l'->VRs σ m a->VRs σ (l++m) (l'++a)
 |_,_,_,_,.nil,h=>h
 |_,_,_,_,.cons hv t,h=>.cons hv (t.append h)
theorem VRs.take:∀ {l l':Lh}(n:Nat),VRs σ l l'->VRs σ (l.take n) (l'.take n)
 |_,_,0,_=>by simpa using VRs.nil
 |_,_,_+1,.nil=>.nil
 |_,_,n+1,.cons hv t=>.cons hv (t.take n)
theorem VRs.drop:∀ {l l':Lh}(n:Nat),VRs σ l l'->VRs σ (l.drop n) (l'.drop n)
 |_,_,0,h=>h
 |_,_,_+1,.nil=>.nil
 |_,_,n+1,.cons _ t=>t.drop n
theorem VRs.set:∀ {l l':Lh}(n:Nat) {v v':Value},VRs σ l l'->VR σ v v'->VRs σ (l.set n v) (l'.set n v')
 |_,_,_,_,_,.nil,_=>.nil
 |_,_,0,_,_,.cons _ t,h=>.cons h t
 |_,_,n+1,_,_,.cons hv t,h=>.cons hv (t.set n h)
def scal:Value->Bool
 | .bool _| .int .. | .float .. | .complex .. | .string _| .pointer none| .slice none _ _| .map none| .chan none| .nilFunc| .nilIface=>true
 |_=>false
theorem l5(a:scal v=true)(h:VR σ v v'):v'=v:=by cases h<;>first|rfl|simp[scal]at a
theorem e7(b:scal v=true)(σ:Sig):VR σ v v:=by
 cases v with
 |bool=>exact .bool _
 |int=>exact .int _ _
 |float=>exact .float _ _
 |complex=>exact .complex _ _ _
 |string=>exact .string _
 |pointer a=>cases a with|none=>exact .ptr0|some a=>simp[scal]at b
 |slice a n k=>cases a with|none=>exact .slice0 _ _|some a=>simp[scal]at b
 |map a=>cases a with|none=>exact .map0|some a=>simp[scal]at b
 |chan a=>cases a with|none=>exact .chan0|some a=>simp[scal]at b
 |nilFunc=>exact .func0
 |nilIface=>exact .iface0
 |func=>simp[scal]at b
 |iface=>simp[scal]at b
 |agg=>simp[scal]at b
 |tuple=>simp[scal]at b
theorem jb{σ:Sig}:∀ {l l':Lh},l.all scal=true->VRs σ l l'->l'=l
 |_,_,_,.nil=>rfl
 |_,_,hs,.cons h t=>by simp only[Jz,f']at hs;rw[l5 hs.1 h,jb hs.2 t]
theorem bt:∀ {l:Lh},l.all scal=true->∀ σ:Sig,VRs σ l l
 | [],_,_=>.nil
 |v::l,hs,σ=>by simp only[Jz,f']at hs;exact .cons (e7 hs.1 σ) (bt hs.2 σ)
def flat:Value->Bool
 | .agg ⟨cs⟩=>cs.all scal
 |v=>scal v
theorem cY(a:flat v=true)(h:VR σ v v'):v'=v:=by
 cases h<;>first|rfl|(simp[flat,scal]at a;done)|skip
 case agg xs xs' h=>rw[jb a h]
theorem bI(b:flat v=true)(σ:Sig):VR σ v v:=by
 cases v with
 |agg a=>obtain⟨a⟩:=a;exact .agg (bt b σ)
 |_=>grind [e7,flat]
theorem VR.cells(h:VR σ v v'):VRs σ v.cells.toList v'.cells.toList:=by
 cases h with
 |agg h=>exact h
 |bool=>exact .cons (.bool _) .nil
 |int=>exact .cons (.int _ _) .nil
 |float=>exact .cons (.float _ _) .nil
 |complex=>exact .cons (.complex _ _ _) .nil
 |string=>exact .cons (.string _) .nil
 |ptr0=>exact .cons .ptr0 .nil
 |ptr i h=>exact .cons (.ptr i h) .nil
 |slice0=>exact .cons (.slice0 _ _) .nil
 |slice i n k h u=>exact .cons (.slice i n k h u) .nil
 |sliceU n h f=>exact .cons (.sliceU n h f) .nil
 |sliceV i n k h f=>exact .cons (.sliceV i n k h f) .nil
 |sliceE a z k=>exact .cons (.sliceE a z k) .nil
 |gs0 B o m a g=>exact .cons (.gs0 B o m a g) .nil
 |gs p o n k m h f x s g=>exact .cons (.gs p o n k m h f x s g) .nil
 |map0=>exact .cons .map0 .nil
 |map h=>exact .cons (.map h) .nil
 |chan0=>exact .cons .chan0 .nil
 |func y w r q=>exact .cons (.func y w r q) .nil
 |func0=>exact .cons .func0 .nil
 |iface t h=>exact .cons (.iface t h) .nil
 |iface0=>exact .cons .iface0 .nil
 |tuple h=>exact .cons (.tuple h) .nil
 |dat a b c d=>exact .cons (.dat a b c d) .nil
 |datN n=>exact .cons (.datN n) .nil
 |datE n a k=>exact .cons (.datE n a k) .nil
 |gp l i j h=>exact .cons (.gp l i j h) .nil
 |datP a b c d e=>exact .cons (.datP a b c d e) .nil
end Go.AM
namespace Go.AM
noncomputable section
abbrev _root_.Go.JA:=@Bool.not_eq_true'
abbrev _root_.Go.Hw:=@Nat.le_refl
abbrev _root_.Go.JC:=@Iff.rfl
abbrev _root_.Go.It:=@Nat.lt_of_lt_of_le
abbrev _root_.Go.I6:=@Nat.le_trans
abbrev _root_.Go.H6:=@Go.AM.T.get_set
abbrev _root_.Go.Jb:=@Nat.le_succ
abbrev _root_.Go.I9:=@Nat.lt_succ_self
abbrev _root_.Go.C':=@cond_true
abbrev _root_.Go.Jq:=@Go.run_loadCells_list
theorem _root_.Go.Ho:type_of% @Nat.eq_of_beq_eq_true:=@Nat.eq_of_beq_eq_true
theorem _root_.Go.HE:type_of% @List.mem_cons:=@List.mem_cons
abbrev _root_.Go.HB:=@Go.Sem.run_bind
abbrev _root_.Go.IR:=@Bool.false_eq_true
abbrev _root_.Go.Hv:=@Go.Result.andThen_ok
abbrev _root_.Go.I3:=@List.ext_getElem?
variable {B b c cp d i n nx:Nat}{ob:Obj}{P:Program}{σ σ':Sig}{v:Value}{w w':World}
inductive AObj where
 |cells (c:Lh) (elem:TypeId)
 |ro (c:Lh) (elem:TypeId)
 |map (es:Lc) (clock:Nat)
 |siter (s:ByteArray) (pos:Nat)
 |gro (els tl:Lh) (elem:TypeId)
 |arr (els rest:Lh) (n:Nat) (elem:TypeId)
 |dead
def AObj.own:AObj->Bool
 | .cells .. | .map .. | .siter .. | .gro .. | .arr .. =>true
 |_=>false
def AObj.nilOk:AObj->Bool
 | .gro .. =>true
 |_=>false
def AObj.here:AObj->Bool
 | .dead=>false
 |_=>true
theorem AObj.here_of_own{o:AObj}(h:o.own=true):o.here=true:=by cases o<;>simp_all [AObj.own,AObj.here]
structure AH where
 t:T AObj
 next:Nat
def ER(σ:Sig)(x:Value×Value×Nat)(e:MapEntry):Prop:=e.key=x.1/\VR σ x.2.1 e.val/\e.born=x.2.2
inductive ERs (σ:Sig):Lc->List MapEntry->Prop
 |nil:ERs σ [] []
 |cons {x:Value×Value×Nat}{e:MapEntry}{l:Lc}{l':List MapEntry}(h:ER σ x e) (t:ERs σ l l'):ERs σ (x::l) (e::l')
theorem ERs.mono(a:σ.sub σ'):∀ {l l'},ERs σ l l'->ERs σ' l l'
 |_,_,.nil=>.nil
 |_,_,.cons h t=>.cons ⟨h.1,h.2.1.mono a,h.2.2⟩ (t.mono a)
def OR(P:Program)(σ:Sig)(ob:Option Obj)(d cp:Nat):AObj->Prop
 | .cells c e=>∃ c' lo hi,ob=some (.cells c' e (lo,hi))/\(∀i,i<c'.size->¬ (lo<=i/\i<hi))/\(∀(i:Nat) v,c[i]? =some v->∃ v',c'[d+i]? =some v'/\VR σ v v')/\d+cp*P.cellsOf e<=c'.size/\d=0
 | .ro c e=>∃ c' fz,ob=some (.cells c' e fz)/\(∀(i:Nat) v,c[i]? =some v->∃ v',c'[d+i]? =some v'/\VR σ v v')
 | .map es k=>∃ es',ob=some (.map es' k)/\ERs σ es es'.toList
 | .siter s p=>ob=some (.stringIter s p)/\d=0
 | .gro els tl e=>∃ c' lo hi,ob=some (.cells c' e (lo,hi))/\(∀i,i<c'.size->¬ (lo<=i/\i<hi))/\(∀(i:Nat) v,(ap (els++tl))[i]? =some v->∃ v',c'[d+i]? =some v'/\VR σ v v')/\(∀x∈els++tl,x.cells.size=P.cellsOf e)/\d+cp*P.cellsOf e<=c'.size/\(els++tl).length<=cp
 | .arr els rest n e=>(∃c' lo hi,ob=some (.cells c' e (lo,hi))/\(∀i,i<c'.size->¬ (lo<=i/\i<hi))/\(∀(i:Nat) v,(els++rest)[i]? =some v->∃ v',c'[d+i]? =some v'/\VR σ v v')/\d+cp*P.cellsOf e<=c'.size/\d=0)/\els.length=n
 | .dead=>True
def glue(els tl:Lh):Lh:=match tl with
 | []=>els
 |_=>els++tl
theorem bW(els tl:Lh):glue els tl=els++tl:=by cases tl<;>simp[glue]
theorem OR.mono(r:σ.sub σ'){ob:Option Obj}{o:AObj}(h:OR P σ ob d cp o):OR P σ' ob d cp o:=by
 cases o with
 |cells c e=>obtain⟨m,q,t,f,l,j,u⟩:=h;exact⟨m,q,t,f,l,λi v g=>let ⟨v',a,b⟩:=j i v g;⟨v',a,b.mono r⟩,u⟩
 |ro c e=>obtain⟨m,C,f,j⟩:=h;exact⟨m,C,f,λi v g=>let ⟨v',a,b⟩:=j i v g;⟨v',a,b.mono r⟩⟩
 |map E k=>obtain⟨x,f,l⟩:=h;exact⟨x,f,l.mono r⟩
 |siter s p=>exact h
 |gro y D e=>obtain⟨m,q,t,f,l,j,u⟩:=h;exact⟨m,q,t,f,l,λi v g=>let ⟨v',a,b⟩:=j i v g;⟨v',a,b.mono r⟩,u⟩
 |arr y z n e=>obtain⟨⟨m,q,t,f,l,j,u⟩,A⟩:=h;exact⟨⟨m,q,t,f,l,λi v g=>let ⟨v',a,b⟩:=j i v g;⟨v',a,b.mono r⟩,u⟩,A⟩
 |dead=>exact h
structure RelG (P:Program) (σ:Sig) (g:Nat->Option AObj) (nx:Nat) (w:World):Prop where
 obj0:∀ B o,g B=some o->o.here=true->(∃b d c,σ B=some (b,d,c)/\OR P σ w.heap[b]? d c o)∨(o.nilOk=true/\σ.nl B)
 inj:∀ B B' o o' x x',g B=some o->g B'=some o'->o.own=true->o'.here=true->B≠B'->σ B=some x->σ B'=some x'->x.1≠x'.1
 lt:∀ B x,σ B=some x->x.1<w.heap.size
 fresh:∀ B,nx<=B->σ B=none
 ro:∀ b o,σ.ro b=some o->w.heap[b]? =some o
 sep:∀ B o x,g B=some o->o.own=true->σ B=some x->σ.ro x.1=none
 nl:∀ B,σ.nl B->B<nx/\σ B=none
abbrev Rel(P:Program)(σ:Sig)(A:AH)(w:World):Prop:=RelG P σ A.t.get A.next w
theorem RelG.obj{g:Nat->Option AObj}(R:RelG P σ g nx w)(B:Nat)(o:AObj)(h:g B=some o)(a:(o.here&& !o.nilOk)=true):∃ b d c,σ B=some (b,d,c)/\OR P σ w.heap[b]? d c o:=by simp only[f',JA]at a;rcases R.obj0 B o h a.1 with f|⟨e,_⟩;exact f;rw[a.2]at e;cases e
theorem RelG.at{P:Program}{σ:Sig}{g:Nat->Option AObj}{nx:Nat}{w:World}(R:RelG P σ g nx w){B:Nat}{o:AObj}{b d c:Nat}(h:g B=some o)(f:o.here=true)(e:σ B=some (b,d,c)):OR P σ w.heap[b]? d c o:=by rcases R.obj0 B o h f with⟨m,k,l,a,j⟩|⟨_,a⟩;rw[e]at a;cases a;exact j;have a:=(R.nl B a).2;rw[e]at a;cases a
structure ExtG (σ:Sig) (g:Nat->Option AObj) (nx:Nat) (w:World) (σ':Sig) (g':Nat->Option AObj) (nx':Nat) (w':World):Prop where
 sig:∀ B,B<nx->σ' B=σ B
 next:nx<=nx'
 size:w.heap.size<=w'.heap.size
 frame:∀ b,b<w.heap.size->(∀B o x,g B=some o->o.own=true->σ B=some x->x.1≠b)->w'.heap[b]? =w.heap[b]?
 orig:∀ B o x,g' B=some o->o.own=true->σ' B=some x->w.heap.size<=x.1∨∃ B0 o0 x0,g B0=some o0/\o0.own=true/\σ B0=some x0/\x0.1=x.1
 orig2:∀ B o x,g' B=some o->o.here=true->σ' B=some x->w.heap.size<=x.1∨∃ B0 o0 x0,g B0=some o0/\o0.here=true/\σ B0=some x0/\x0.1=x.1
 os:w'.os=w.os
 tape:w'.tape=w.tape
 output:w'.output=w.output
 sro:∀ b o,σ.ro b=some o->σ'.ro b=some o
 rog:∀ b o,σ'.ro b=some o->σ.ro b=some o∨w.heap.size<=b∨∃ B0 o0 x0,g B0=some o0/\o0.own=true/\σ B0=some x0/\x0.1=b
 snl:∀ B,B<nx->(σ'.nl B↔σ.nl B)
abbrev Ext(σ:Sig)(A:AH)(w:World)(b:Sig)(a:AH)(c:World):Prop:=ExtG σ A.t.get A.next w b a.t.get a.next c
theorem ExtG.refl(σ:Sig)(g:Nat->Option AObj)(nx:Nat)(w:World):ExtG σ g nx w σ g nx w:=
 ⟨λ_ _=>rfl,Hw _,Hw _,λ_ _ _=>rfl,λB o x f e a=>.inr ⟨B,o,x,f,e,a,rfl⟩,λB o x f e a=>.inr ⟨B,o,x,f,e,a,rfl⟩,rfl,rfl,rfl,λ_ _ h=>h,λ_ _ h=>.inl h,λ_ _=>JC⟩
theorem Ext.refl(σ:Sig)(A:AH)(w:World):Ext σ A w σ A w:=ExtG.refl _ _ _ _
theorem ExtG.trans{t s:Sig}{g j f:Nat->Option AObj}{G F:Nat}{D C:World}(h:ExtG σ g n w t j G D)(k:ExtG t j G D s f F C):ExtG σ g n w s f F C where
 sig B hB:=(k.sig B (It hB h.next)).trans (h.sig B hB)
 next:=I6 h.next k.next
 size:=I6 h.size k.size
 frame b hb hn:=by refine(k.frame b (It hb h.size) λB o x a y u e=>?_).trans (h.frame b hb hn);rcases h.orig B o x a y u with l|⟨r,p,m,j,f,q,z⟩;all_goals grind
 orig B o x a y u:=by rcases k.orig B o x a y u with l|⟨r,p,m,j,f,q,z⟩;exact .inl (I6 h.size l);· rcases h.orig r p m j f q with l|⟨L,E,A,K,J,I,H⟩;all_goals grind
 orig2 B o x a y u:=by rcases k.orig2 B o x a y u with l|⟨r,p,m,j,f,q,z⟩;exact .inl (I6 h.size l);· rcases h.orig2 r p m j f q with l|⟨L,E,A,K,J,I,H⟩;all_goals grind
 os:=k.os.trans h.os
 tape:=k.tape.trans h.tape
 output:=k.output.trans h.output
 sro b o hb:=k.sro b o (h.sro b o hb)
 rog b o hb:=by rcases k.rog b o hb with a|a|⟨r,p,m,j,f,q,z⟩;exact h.rog b o a;exact .inr (.inl (I6 h.size a));· rcases h.orig r p m j f q with l|⟨L,E,A,K,J,I,H⟩;all_goals grind
 snl B hB:=(k.snl B (It hB h.next)).trans (h.snl B hB)
theorem Ext.trans{e a:Sig}{A A1 j:AH}{g f:World}(h:Ext σ A w e A1 g)(k:Ext e A1 g a j f):Ext σ A w a j f:=ExtG.trans h k
theorem ExtG.sub{g j:Nat->Option AObj}{f:Nat}(R:RelG P σ g n w)(h:ExtG σ g n w σ' j f w'):σ.sub σ':=by refine⟨λB x a=>?_,h.sro⟩;by_cases e:B<n;rw[h.sig B e];exact a;rw[R.fresh B (Nat.le_of_not_lt e)]at a;cases a
theorem Ext.sub{A A':AH}(R:Rel P σ A w)(h:Ext σ A w σ' A' w'):σ.sub σ':=ExtG.sub R h
theorem RelG.drew{g:Nat->Option AObj}(R:RelG P σ g n w)(h:w'.heap=w.heap):RelG P σ g n w' where
 obj0 B o h1 h2:=by rw[h];exact R.obj0 B o h1 h2
 inj:=R.inj
 lt B x hx:=by rw[h];exact R.lt B x hx
 fresh:=R.fresh
 ro b o hb:=by rw[h];exact R.ro b o hb
 sep:=R.sep
 nl:=R.nl
theorem Rel.drew{A:AH}(R:Rel P σ A w)(h:w'.heap=w.heap):Rel P σ A w':=RelG.drew R h
theorem ExtG.drew{g:Nat->Option AObj}(h:w'.heap=w.heap)(l:w'.os=w.os)(j:w'.tape=w.tape)(k:w'.output=w.output):ExtG σ g n w σ g n w':=
 ⟨λ_ _=>rfl,Hw _,by rw[h];exact Hw _,λ_ _ _=>by rw[h],λB o x f e a=>.inr ⟨B,o,x,f,e,a,rfl⟩,λB o x f e a=>.inr ⟨B,o,x,f,e,a,rfl⟩,l,j,k,λ_ _ h=>h,λ_ _ h=>.inl h,λ_ _=>JC⟩
theorem RelG.fewer{g j:Nat->Option AObj}{e:Nat}(R:RelG P σ g n w)(a:∀ B o,j B=some o->o.here=true->g B=some o)(k:∀ B,e<=B->σ B=none)(f:∀ B,σ.nl B->B<e):RelG P σ j e w where
 obj0 B o h1 h2:=R.obj0 B o (a B o h1 h2) h2
 inj B B' o o' x x' h1 h2 h3 h4:=R.inj B B' o o' x x' (a B o h1 (AObj.here_of_own h3)) (a B' o' h2 h4) h3 h4
 lt:=R.lt
 fresh:=k
 ro:=R.ro
 sep B o x h1 h2:=R.sep B o x (a B o h1 (AObj.here_of_own h2)) h2
 nl B h:=⟨f B h,(R.nl B h).2⟩
def upd(σ:Sig)(a:Nat)(x:Nat×Nat×Nat):Sig:=⟨λB=>if B=a then some x else σ B,σ.ro,σ.nl⟩
theorem ch{id:Nat}{x:Nat×Nat×Nat}(h:σ id=none):σ.sub (upd σ id x):=by refine⟨λB y a=>?_,λ_ _ h=>h⟩;grind [upd]
theorem bG{id:Nat}{x:Nat×Nat×Nat}:upd σ id x id=some x:=by simp[upd]
theorem RelG.alloc{g G:Nat->Option AObj}(R:RelG P σ g n w){id:Nat}{o:AObj}
 (C:∀ B,G B=if B=id then some o else g B) (A:σ id=none) (q:¬ σ.nl id) (S:id<nx) (Q:n<=nx)
 (L:OR P (upd σ id (w.heap.size,0,cp)) (some ob) 0 cp o) (F:w'.heap=w.heap.push ob):
 RelG P (upd σ id (w.heap.size,0,cp)) G nx w':=by
 have k:σ.sub (upd σ id (w.heap.size,0,cp)):=ch A;refine⟨?_,?_,?_,?_,λb o O=>?_,λB m x h u a=>?_,λB h=>?_⟩;rotate_left 6;obtain⟨J,I⟩:=R.nl B h;refine⟨It J Q,?_⟩;show(if B=id then _ else σ B)=none;rw[Hm (λe:B=id=>q (e▸h))];exact I;rotate_left 4;have:=R.ro b o O;grind;simp only[C]at h;unfold upd at a;simp only at a;show σ.ro x.1=none;by_cases e:B=id;rw[Ht e]at a;cases a;cases K:σ.ro w.heap.size with
 |none=>rfl
 |some E=>have:=R.ro _ _ K;simp at this
 rw[Hm e]at a h;exact R.sep B m x h u a;intro B m h N;simp only[C]at h;by_cases e:B=id;subst e;simp only[Jt,osI]at h;grind [bG,Array.getElem?_push_size];· rw[Hm e]at h;rcases R.obj0 B m h N with⟨b,d,c,s,D⟩|⟨s,D⟩;rotate_left;exact .inr ⟨s,D⟩;refine .inl ⟨b,d,c,k.f _ _ s,?_⟩;have z:=R.lt B _ s;rw[F,Array.getElem?_push,Hm (by simp at z;omega)];exact D.mono k
 intro B t m E x H h l M y p a j;simp only[C]at h l;unfold upd at a j;simp only at a j;by_cases e:B=id;rw[Ht e]at a;by_cases r:t=id;exact absurd (e.trans r.symm) p;rw[Hm r]at j;have:=R.lt t _ j;grind;rw[Hm e]at a h;by_cases r:t=id;rw[Ht r]at j;have:=R.lt B _ a;grind;rw[Hm r]at j l;exact R.inj B t m E x H h l M y p a j;intro B x a;unfold upd at a;simp only at a;rw[F,Array.size_push];by_cases e:B=id;grind;rw[Hm e]at a;have:=R.lt B x a;omega;intro B h;unfold upd;simp only;rw[Hm (by omega)];exact R.fresh B (by omega)
theorem Rel.alloc{A:AH}(R:Rel P σ A w){f:Nat}{o:AObj}{t:T AObj}
 (a:T.set f A.t A.next o=some t) (g:σ A.next=none) (l:A.next<nx) (k:A.next<=nx)
 (e:OR P (upd σ A.next (w.heap.size,0,cp)) (some ob) 0 cp o) (j:w'.heap=w.heap.push ob):
 Rel P (upd σ A.next (w.heap.size,0,cp)) ⟨t,nx⟩ w':=RelG.alloc R (H6 a) g (λh=>Nat.lt_irrefl _ (R.nl _ h).1) l k e j
theorem ExtG.allocAt{g j:Nat->Option AObj}{a id:Nat}(R:RelG P σ g n w){o:AObj}
 (s:∀ B,j B=if B=id then some o else g B) (t:a<=n) (e:a<=id) (l:w'.heap=w.heap.push ob)
 (r:w'.os=w.os) (m:w'.tape=w.tape) (p:w'.output=w.output):
 ExtG σ g a w (upd σ id (w.heap.size,0,cp)) j n w':=by refine⟨?_,t,?_,?_,?_,?_,r,m,p,λ_ _ h=>h,λ_ _ h=>.inl h,λ_ _=>JC⟩;intro B f;unfold upd;simp only;rw[Hm (by omega)];rw[l,Array.size_push];omega;grind;all_goals intro B u x f q k;simp only[s]at f;unfold upd at k;grind
theorem Ext.alloc{A:AH}(R:Rel P σ A w){f:Nat}{o:AObj}{t:T AObj}
 (a:T.set f A.t A.next o=some t) (l:A.next<=nx) (k:w'.heap=w.heap.push ob)
 (j:w'.os=w.os) (e:w'.tape=w.tape) (g:w'.output=w.output):
 Ext σ A w (upd σ A.next (w.heap.size,0,cp)) ⟨t,nx⟩ w':=by have h:=ExtG.allocAt (cp:=cp) R (H6 a) (Hw _) (Hw _) k j e g;exact⟨h.sig,l,h.size,h.frame,h.orig,h.orig2,j,e,g,h.sro,h.rog,h.snl⟩
theorem Rel.upd{A:AH}(R:Rel P σ A w){f:Nat}{o o2:AObj}{t:T AObj}
 (z:A.t.get B=some o) (u:o.own=true) (r:σ B=some (b,d,c)) (s:T.set f A.t B o2=some t) (O:o2.own=true)
 (M:w'.heap.size=w.heap.size) (H:∀ p,p≠b->w'.heap[p]? =w.heap[p]?) (N:OR P σ w'.heap[b]? d c o2):Rel P σ ⟨t,A.next⟩ w':=by
 have E:=H6 s;refine⟨?_,?_,?_,R.fresh,λp L F=>?_,λg q x a j k=>?_,R.nl⟩;rotate_left 3;rw[H p (λe=>by have:=R.sep B o _ z u r;grind)];exact R.ro p L F;simp only[E]at a;by_cases e:g=B;subst e;exact R.sep g o x z u k;rw[Hm e]at a;exact R.sep g q x a j k;intro g q a I;simp only[E]at a;by_cases e:g=B;grind;· rw[Hm e]at a;rcases R.obj0 g q a I with⟨J,Q,S,D,G⟩|⟨D,G⟩;rotate_left;exact .inr ⟨D,G⟩;refine .inl ⟨J,Q,S,D,?_⟩;rw[H J (λx=>R.inj B g o q _ _ z a u I (λm=>e m.symm) r D x.symm)];exact G
 intro g U q K x V a C j y h k l;simp only[E]at a C;by_cases e:g=B;subst e;rw[Hm (λm=>h m.symm)]at C;exact R.inj _ _ _ _ _ _ z C u y h k l;rw[Hm e]at a;by_cases m:U=B;subst m;exact R.inj _ _ _ _ _ _ a z j (AObj.here_of_own u) h k l;rw[Hm m]at C;exact R.inj _ _ _ _ _ _ a C j y h k l;intro g x k;rw[M];exact R.lt g x k
theorem Ext.upd{A:AH}{f:Nat}{o o2:AObj}{t:T AObj}
 (q:A.t.get B=some o) (m:o.own=true) (k:σ B=some (b,d,c)) (a:T.set f A.t B o2=some t)
 (l:w'.heap.size=w.heap.size) (D:∀ g,g≠b->w'.heap[g]? =w.heap[g]?) (u:w'.os=w.os) (s:w'.tape=w.tape) (r:w'.output=w.output):
 Ext σ A w σ ⟨t,A.next⟩ w':=by have p:=H6 a;refine⟨λ_ _=>rfl,Hw _,by rw[l];exact Hw _,?_,?_,?_,u,s,r,λ_ _ h=>h,λ_ _ h=>.inl h,λ_ _=>JC⟩;grind;grind;intro j C x z E y;simp only[p]at z;by_cases e:j=B;subst e;exact .inr ⟨j,o,x,q,AObj.here_of_own m,y,rfl⟩;grind
theorem Rel.dead{A:AH}(R:Rel P σ A w){f:Nat}{t:T AObj}(a:T.set f A.t B .dead=some t):Rel P σ ⟨t,A.next⟩ w:=by have g:=H6 a;refine RelG.fewer R (λj o h k=>?_) R.fresh (λB h=>(R.nl B h).1);simp only[g]at h;by_cases e:j=B;rw[Ht e]at h;grind [osI,AObj.here];rwa[Hm e]at h
theorem Ext.dead{A:AH}{f:Nat}{t:T AObj}(a:T.set f A.t B .dead=some t):Ext σ A w σ ⟨t,A.next⟩ w:=by have j:=H6 a;refine⟨λ_ _=>rfl,Hw _,Hw _,λ_ _ _=>rfl,?_,?_,rfl,rfl,rfl,λ_ _ h=>h,λ_ _ h=>.inl h,λ_ _=>JC⟩;all_goals intro k o x g m l;simp only[j]at g;by_cases e:k=B;rw[Ht e]at g;grind [osI,AObj.own,AObj.here];grind
theorem Rel.move{A:AH}(R:Rel P σ A w){f d2 c2:Nat}{o o2:AObj}{t U:T AObj}
 (L:A.t.get B=some o) (H:o.own=true) (k:σ B=some (b,d,c)) (G:T.set f A.t B .dead=some t) (y:T.set f t A.next o2=some U) (a1:o2.own=true)
 (p:w'.heap.size=w.heap.size) (X:∀ D,D≠b->w'.heap[D]? =w.heap[D]?) (a0:OR P (AM.upd σ A.next (b,d2,c2)) w'.heap[b]? d2 c2 o2):
 Rel P (AM.upd σ A.next (b,d2,c2)) ⟨U,A.next+1⟩ w':=by
 have Q:=H6 G;have z:=H6 y;have J:σ A.next=none:=R.fresh _ (Hw _)
 have s:σ.sub (AM.upd σ A.next (b,d2,c2)):=ch J;have a2:B≠A.next:=by intro e;rw[e,J]at k;cases k
 refine⟨?_,?_,?_,?_,λD V C=>?_,λg E x a q j=>?_,λg h=>?_⟩;rotate_left 6;obtain⟨q1,q2⟩:=R.nl g h;refine⟨Nat.lt_succ_of_lt q1,?_⟩;show(if g=A.next then _ else σ g)=none;rw[Hm (by omega)];exact q2;rotate_left 4;have C:σ.ro D=some V:=C;rw[X D (λe=>by have:=R.sep B o _ L H k;grind)];exact R.ro D V C;simp only[z,Q]at a;unfold AM.upd at j;simp only at j;show σ.ro x.1=none;by_cases e:g=A.next
 rw[Ht e]at j;cases j;have p:=R.sep B o (b,d,c) L H k;exact p;rw[Hm e]at a j;by_cases F:g=B;rw[Ht F]at a;grind [osI,AObj.own];rw[Hm F]at a;exact R.sep g E x a q j;intro g E a Y;simp only[z,Q]at a;by_cases e:g=A.next
 rw[Ht e]at a;grind [osI,bG];rw[Hm e]at a;by_cases m:g=B;rw[Ht m]at a;grind [osI,AObj.here];· rw[Hm m]at a;rcases R.obj0 g E a Y with⟨Z,d1,c1,M,S⟩|⟨M,S⟩;rotate_left;exact .inr ⟨M,S⟩;refine .inl ⟨Z,d1,c1,s.f _ _ M,?_⟩;rw[X Z (λx=>R.inj B g o E _ _ L a H Y (λu=>m u.symm) k M x.symm)];exact S.mono s
 intro g N E O x x' a r q K I j l;simp only[z,Q]at a r;unfold AM.upd at j l;simp only at j l;by_cases e:g=A.next
 rw[Ht e]at j;rw[Hm (λu=>I (e.trans u.symm))]at r l;cases j;by_cases m:N=B;rw[Ht m]at r;grind [osI,AObj.here];rw[Hm m]at r;have p:=R.inj B N o O (b,d,c) _ L r H K (λu=>m u.symm) k l;exact p;rw[Hm e]at a j;by_cases F:g=B;rw[Ht F]at a;grind [osI,AObj.own];rw[Hm F]at a;by_cases u:N=A.next
 rw[Ht u]at l;cases l;have p:=R.inj g B E o _ (b,d,c) a L q (AObj.here_of_own H) F j k;exact p;rw[Hm u]at r l;by_cases m:N=B;rw[Ht m]at r;grind [osI,AObj.here];rw[Hm m]at r;exact R.inj _ _ _ _ _ _ a r q K I j l;intro g x j;unfold AM.upd at j;simp only at j;rw[p];by_cases e:g=A.next
 rw[Ht e]at j;cases j;have p:=R.lt B (b,d,c) k;exact p;rw[Hm e]at j;exact R.lt g x j;intro g a;show AM.upd σ A.next _ g=none
 unfold AM.upd;simp only;rw[Hm (by simp at a;omega)];exact R.fresh g (by simp at a;omega)
theorem Ext.move{A:AH}(R:Rel P σ A w){f d2 c2:Nat}{o o2:AObj}{t s:T AObj}
 (u:A.t.get B=some o) (q:o.own=true) (k:σ B=some (b,d,c)) (l:T.set f A.t B .dead=some t) (a:T.set f t A.next o2=some s)
 (E:w'.heap.size=w.heap.size) (D:∀ m,m≠b->w'.heap[m]? =w.heap[m]?) (J:w'.os=w.os) (I:w'.tape=w.tape) (H:w'.output=w.output):
 Ext σ A w (AM.upd σ A.next (b,d2,c2)) ⟨s,A.next+1⟩ w':=by
 have G:=H6 l;have r:=H6 a;refine⟨?_,Jb _,by rw[E];exact Hw _,?_,?_,?_,J,I,H,λ_ _ h=>h,λ_ _ h=>.inl h,λ_ _=>JC⟩;intro p h;unfold AM.upd;simp only;rw[Hm (by omega)];intro m _ F;exact D m (λe=>F B o _ u q k e.symm);all_goals
  intro p C x j y g;simp only[r,G]at j;unfold AM.upd at g;simp only at g;by_cases e:p=A.next
  rw[Ht e]at g;cases g;exact .inr ⟨B,o,_,u,by first|exact q|exact AObj.here_of_own q,k,rfl⟩;rw[Hm e]at j g;by_cases z:p=B;rw[Ht z]at j;cases j;simp[AObj.own,AObj.here]at y;rw[Hm z]at j;exact .inr ⟨p,C,x,j,y,g,rfl⟩
def nilU(σ:Sig)(a:Nat):Sig:=⟨σ.f,σ.ro,λB=>B=a∨σ.nl B⟩
theorem dZ(σ:Sig)(id:Nat):σ.sub (nilU σ id):=⟨λ_ _ h=>h,λ_ _ h=>h⟩
theorem Rel.nilGro{A:AH}(R:Rel P σ A w){f:Nat}{e:TypeId}{t:T AObj}(m:T.set f A.t A.next (.gro [] [] e)=some t):Rel P (nilU σ A.next) ⟨t,A.next+1⟩ w/\Ext σ A w (nilU σ A.next) ⟨t,A.next+1⟩ w:=by
 have D:=H6 m;have s:σ A.next=none:=R.fresh _ (Hw _)
 have a:∀ {B:Nat}{o:AObj}{x:Nat×Nat×Nat},t.get B=some o->σ B=some x->A.t.get B=some o:=fun {B o x} h k=>by grind
 refine⟨⟨λB o h u=>?_,λB F o C x z h E q u r k l=>R.inj B F o C x z (a h k) (a E l) q u r k l,R.lt,λB y=>R.fresh B (by simp at y;omega),R.ro,λB o x h q k=>R.sep B o x (a h k) q k,λB h=>?_⟩,⟨λ_ _=>rfl,Jb _,Hw _,λ_ _ _=>rfl,λB o x j g p=>.inr ⟨B,o,x,a j p,g,p,rfl⟩,λB o x j g p=>.inr ⟨B,o,x,a j p,g,p,rfl⟩,rfl,rfl,rfl,λ_ _ h=>h,λ_ _ h=>.inl h,λB y=>⟨λh=>h.resolve_left (by omega),.inr⟩⟩⟩;have h:t.get B=some o:=h;rw[D]at h;by_cases e:B=A.next
 subst e;rw[Ht rfl]at h;cases h;exact .inr ⟨rfl,.inl rfl⟩;rw[Hm e]at h;rcases R.obj0 B o h u with⟨b,d,c,j,g⟩|⟨j,g⟩;exact .inl ⟨b,d,c,j,g.mono (dZ σ _)⟩;exact .inr ⟨j,.inr g⟩;rcases h with rfl|h;exact⟨I9 _,s⟩;exact⟨Nat.lt_succ_of_lt (R.nl B h).1,(R.nl B h).2⟩
theorem aM(b o n:Nat):(⟨b,o,none⟩:Addr).add n=⟨b,o+n,none⟩:=by unfold Addr.add;split<;>simp_all
def look(A:AH)(B:Nat):Option Lh:=
 match A.t.get B with
 |some (.cells c _)=>some c
 |some (.ro c _)=>some c
 |_=>none
theorem gL{A:AH}(R:Rel P σ A w){c:Lh}(h:look A B=some c)(m:c[i]? =some v):
 ∃b d k v',σ B=some (b,d,k)/\w.cell? ⟨b,d+i,none⟩=some v'/\VR σ v v':=by
 unfold look at h;cases e:A.t.get B with
 |none=>simp[e]at h
 |some o=>
 cases o<;>simp only[e]at h<;>first|(simp at h;done)|skip
 all_goals cases h
 obtain⟨b,d,k,a,p,q,r,g,_,f,_⟩:=R.obj B _ e rfl;obtain⟨v',l,j⟩:=f i v m;exact⟨b,d,k,v',a,by simp[World.cell?,g,l],j⟩;obtain⟨b,d,k,a,p,s,g,f⟩:=R.obj B _ e rfl;obtain⟨v',l,j⟩:=f i v m;exact⟨b,d,k,v',a,by simp[World.cell?,g,l],j⟩
def gr(A:AH)(B i n:Nat):Option Lh:=
 match look A B with
 |some c=>let l:=(c.drop i).take n;bif Nat.beq l.length n then some l else none
 |none=>none
theorem cW{A:AH}(R:Rel P σ A w){k:Nat}{l:Lh}(h:gr A B i n=some l)(D:σ B=some (b,d,k)):
 ∃l',VRs σ l l'/\∀ w':World,w'.heap=w.heap->(loadCells ⟨b,d+i,none⟩ n).run P w'=.ok l'.toArray w':=by
 unfold gr at h;cases q:look A B with
 |none=>simp[q]at h
 |some c=>
 simp only[q]at h;by_cases p:((c.drop i).take n).length=n;have e:Nat.beq ((c.drop i).take n).length n=true:=by rw[p];simp
 rw[e]at h;simp only[C',osI]at h;subst h;have a:∀ (j:Nat) v,((c.drop i).take n)[j]? =some v->∃ f,w.cell? ⟨b,d+i+j,none⟩=some f/\VR σ v f:=by
  intro j v g;have E:c[i+j]? =some v:=by grind
  obtain⟨K,J,F,f,s,r,y⟩:=gL R q E;grind
 generalize ((c.drop i).take n)=l at p a;clear q e;have t:∃ l',VRs σ l l'/\∀ (j:Nat) f,l'[j]? =some f->w.cell? ⟨b,d+i+j,none⟩=some f:=by
  clear p;generalize d+i=o at a;induction l generalizing o with
  |nil=>exact⟨[],.nil,λj f h=>by simp at h⟩
  |cons x l C=>
  obtain⟨z,s,r⟩:=a 0 x (by simp);obtain⟨l',y,G⟩:=C (o+1) (λj v g=>by obtain⟨f,I,H⟩:=a (j+1) v (by simpa using g);grind)
  refine⟨z::l',.cons r y,λj f g=>?_⟩;grind
 obtain⟨l',s,r⟩:=t;refine⟨l',s,λw' u=>?_⟩;have m:l'.length=n:=by rw[s.length,p]
 rw[<-m];exact Jq w' ⟨b,d+i,none⟩ l' (λj v g=>by rw[aM];have:=r j v g;unfold World.cell? at this ⊢;rw[u];exact this)
 grind [Nat.beq,absurd,Ho]
theorem ld{A:AH}(R:Rel P σ A w){k:Nat}{l:Lh}(h:gr A B i n=some l)(a:σ B=some (b,d,k)):
 ∃l',VRs σ l l'/\(loadCells ⟨b,d+i,none⟩ n).run P w=.ok l'.toArray w:=
 let ⟨l',h1,h2⟩:=cW R h a
 ⟨l',h1,h2 w rfl⟩
def cellv(v:Value):Bool:=v.oneCell'
theorem VR.cellv{v':Value}(h:VR σ v v'):AM.cellv v'=AM.cellv v:=by cases h<;>rfl
theorem VRs.cellv:∀ {l l':Lh},VRs σ l l'->l.all AM.cellv=true->∀ v∈l',v.oneCell'=true
 |_,_,.nil,_,v,h=>by simp at h
 |_,_,.cons hv t,ha,v,h=>by simp only[Jz,f']at ha;rcases HE.1 h with rfl|h;exact(VR.cellv hv).trans ha.1;exact t.cellv ha.2 v h
def over(c:Lh)(i:Nat)(a:Lh):Lh:=c.take i++a++c.drop (i+a.length)
theorem bZ{c vs:Lh}(h:i+vs.length<=c.length)(j:Nat):
 (over c i vs)[j]? =if j<i then c[j]? else if j<i+vs.length then vs[j-i]? else c[j]?:=by unfold over;grind
theorem bn{c vs:Lh}(h:i+vs.length<=c.length):(over c i vs).length=c.length:=by unfold over;simp;omega
theorem cP{P:Program}:∀ (vs:Lh) (i:Nat) (w:World) (b o:Nat) (c:Array Value) (e:TypeId) (lo a:Nat),
 w.heap[b]? =some (.cells c e (lo,a))->o+i+vs.length<=c.size->(∀i,i<c.size->¬ (lo<=i/\i<a))->(∀v∈vs,v.oneCell'=true)->
 ∃ w',(storeCells ⟨b,o,none⟩ vs i).run P w=.ok () w'/\w'.heap.size=w.heap.size/\(∀m,m≠b->w'.heap[m]? =w.heap[m]?)/\
   w'.heap[b]? =some (.cells (over c.toList (o+i) vs).toArray e (lo,a))/\w'.os=w.os/\w'.tape=w.tape/\w'.output=w.output/\w'.drawn=w.drawn
 | [],i,w,b,o,c,e,lo,a,hb,_,_,_=>⟨w,rfl,rfl,λ_ _=>rfl,by rw[hb];simp[over],rfl,rfl,rfl,rfl⟩
 | v::vs,i,w,b,o,c,e,lo,a,hb,hl,hf,h1=>by
  have k:o+i<c.size:=by simp at hl;omega
  have f:w.cell? ⟨b,o+i,none⟩=some c[o+i]:=by simp[World.cell?,hb,k]
  have l:w.frozen? ⟨b,o+i,none⟩=false:=by have:=hf (o+i) k;simp only[World.frozen?,hb];simpa using this
  have p:b<w.heap.size:=by grind
  have g:(w.setCell ⟨b,o+i,none⟩ v).heap[b]? =some (.cells (c.setIfInBounds (o+i) v) e (lo,a)):=by simp[World.setCell,Array.getElem?_modify,hb]
  obtain⟨w',D,C,A,z,y,u,t,s⟩:=cP vs (i+1) (w.setCell ⟨b,o+i,none⟩ v) b o (c.setIfInBounds (o+i) v) e lo a g (by simp at hl ⊢;omega) (λj r=>hf j (by simpa using r)) (λx q=>h1 x (by simp[q]));refine⟨w',?_,?_,?_,?_,?_,?_,?_,?_⟩;simp only[storeCells,HB,aM];rw[run_store P w _ v _ (h1 v (by simp)),f];simp only[l,IR,I2,Hv];exact D;rw[C];simp[World.setCell];intro m h;rw[A m h];simp only[World.setCell,Array.getElem?_modify];rw[Hm (λe=>h e.symm)];rw[z];congr 3;apply I3;intro j;rw[bZ (by simp at hl ⊢;omega),bZ (by simp at hl ⊢;omega)];grind;rw[y];rfl;rw[u];rfl;rw[t];rfl;rw[s];rfl
def Good(P:Program)(σ:Sig)(A:AH)(w:World)(r:Result Next)(v:Value)(A':AH):Prop:=
 ∃nx v' w' σ',r=.ok nx w'/\(nx=.value v'∨(nx=.skip/\v'=undef))/\VR σ' v v'/\Rel P σ' A' w'/\Ext σ A w σ' A' w'
theorem Good.value{A A':AH}{r:Result Next}{v':Value}(h:r=.ok (.value v') w')(a:VR σ' v v')(e:Rel P σ' A' w')(f:Ext σ A w σ' A' w'):Good P σ A w r v A':=
 ⟨_,v',w',σ',h,.inl rfl,a,e,f⟩
theorem cv(σ:Sig):VR σ undef undef:=.tuple .nil
theorem Good.skip{A A':AH}{r:Result Next}(h:r=.ok .skip w')(a:Rel P σ' A' w')(e:Ext σ A w σ' A' w'):Good P σ A w r undef A':=
 ⟨_,undef,w',σ',h,.inr ⟨rfl,rfl⟩,cv _,a,e⟩
abbrev _root_.Go.Jh:=@Go.run_underlying
abbrev _root_.Go.Ih:=@Go.Sem.run_pure
abbrev _root_.Go.HJ:=@cond_false
abbrev _root_.Go.In:=@Nat.add_assoc
abbrev _root_.Go.IW:=@Nat.zero_add
theorem _root_.Go.Hr:type_of% @List.getElem?_eq_getElem:=@List.getElem?_eq_getElem
theorem _root_.Go.Hs:type_of% @Prod.mk.injEq:=@Prod.mk.injEq
theorem _root_.Go.HA:type_of% @Nat.ble_eq:=@Nat.ble_eq
abbrev _root_.Go.Iu:=@Bool.or_eq_true
abbrev _root_.Go.IS:=@Go.WideShapes.bytes_inj
abbrev _root_.Go.IF:=@Nat.le_of_ble_eq_true
abbrev _root_.Go.JE:=@Option.isSome_none
theorem _root_.Go.Ik:type_of% @Option.map_some:=@Option.map_some
abbrev _root_.Go.Kd:=@Nat.sub_zero
abbrev _root_.Go.IX:=@Nat.sub_self
structure Env where
 P:Program
 ti:TypeId->Option TypeInfo
 fn:FuncId->Option Func
 gl:Nat->Option Lh
 ext:FuncId->Option (Lh->AH->Option (Value×AH))
 sym:Bool
def plc(cs:Lh):Value:=.func (.yield 1) ⟨cs⟩ ⟨[.int .i64 (0:Nat),.int .i64 (0:Nat)]⟩
abbrev GlOk(E:Env):Prop:=∀ g:Nat,E.gl g=E.gl g
structure Env.Ok (E:Env):Prop where
 ti:∀ t i,E.ti t=some i->E.P.info? t=some i
 fn:∀ f g,E.fn f=some g->E.P.funcs[f]? =some g
 fnb:∀ f g,E.fn f=some g->g.body.isNone=false/\(g.name== "runtime.NumGoroutine")=false
 ext:∀ f x vs A v A',E.ext f=some x->x vs A=some (v,A')->∀ σ w vs',Rel E.P σ A w->VRs σ vs vs'->Good E.P σ A w ((callFunc f ⟨vs'⟩).run E.P w) v A'
 mixed:E.P.follows .mixedOrders=true
def und(E:Env)(t:TypeId):Option TypeDesc:=
 match E.ti t with
 | some i=>(match i.desc with
   | .named _ u=>(match E.ti u with|some j=>some j.desc|none=>none)
   |d=>some d)
 |none=>none
theorem cd{E:Env}(g:E.Ok){t:TypeId}{d:TypeDesc}(h:und E t=some d):E.P.underlying t=some d:=by
 unfold und at h;unfold Program.underlying;cases e:E.ti t with
 |none=>simp[e]at h
 |some i=>
 rw[g.ti t i e];obtain⟨a,x,s,r,q,p,o,m,l,k⟩:=i;cases a with
 | named n u=>
  simp only[e]at h ⊢;cases f:E.ti u with
  |none=>simp[f]at h
  |some j=>simp only[f,osI]at h;rw[g.ti u j f];simp[h]
 |_=>simpa[e]using h
section
variable {E:Env}{w:World}
variable {t:TypeId}{i:TypeInfo}
theorem aj(a:E.Ok){d:TypeDesc}(h:und E t=some d)(w:World):(underlying t).run E.P w=.ok d w:=Jh (cd a h) w
theorem uW(a:E.Ok)(h:E.ti t=some i)(w:World):(typeInfo t).run E.P w=.ok i w:=by simp[typeInfo,a.ti t i h]
theorem aH(a:E.Ok)(h:E.ti t=some i)(w:World):(sizeOf t).run E.P w=.ok i.size w:=by simp[sizeOf,uW a h]
theorem fK(a:E.Ok){z:Value}(h:E.ti t=some i)(b:i.zero=some z)(w:World):(zeroValue t).run E.P w=.ok z w:=by simp[zeroValue,uW a h,b]
def br:TypeDesc->Bool
 | .struct _| .array .. =>true
 |_=>false
theorem cD(a:E.Ok){d:TypeDesc}(h:und E t=some d)(w:World):(isAgg t).run E.P w=.ok (br d) w:=by simp only[isAgg,HB,aj a h,Hv];cases d<;>rfl
end
variable {A:AH}{r:Bool}{E:Env}{y:Operand}{P:Program}{σ:Sig}{kt t:TypeId}{a' b b' k v x x':Value}{w:World}
def prun{α :Type}(P:Program):Sem α ->Option α
 | .pure a=>some a
 | .program k=>prun P (k P)
 | .mark _ k=>prun P k
 | .choose q k=>bif q.forced then prun P (k 0)else none
 |_=>none
theorem jh{e :Type}{s:Sem e}{a: e}(h:prun P s=some a)(w:World):s.run P w=.ok a w:=by
 induction s with
 |pure b=>simp[prun]at h;subst h;rfl
 |program k c=>exact c P h
 |mark m k c=>exact c h
 | choose q k c=>
  simp only[prun]at h;cases d:q.forced with
  |true=>rw[d]at h;simp only[Sem.run,d,Jt];exact c 0 h
  |false=>rw[d]at h;simp at h
 |_=>simp[prun]at h
def OpR(σ:Sig)(ρ:Operand->Lj)(a:Operand->Value):Prop:=∀ x v,ρ x=some v->VR σ v (a x)
def mapO{α β :Type}(f: α ->Option β):List α ->Option (List β)
 | []=>some []
 | x::l=>match f x with
   |some y=>(match mapO f l with|some r=>some (y::r)|none=>none)
   |none=>none
theorem eC{σ:Sig}{ρ:Operand->Lj}{a:Operand->Value}(c:OpR σ ρ a):∀ {l:List Operand}{vs:Lh},mapO ρ l=some vs->VRs σ vs (l.map a)
 | [],vs,h=>by simp[mapO]at h;subst h;exact .nil
 | x::l,vs,h=>by
  simp only[mapO]at h;cases d:ρ x with
  |none=>simp[d]at h
  |some y=>
  cases e:mapO ρ l with
  |none=>simp[d,e]at h
  |some r=>simp only[d,e,osI]at h;subst h;exact .cons (c x y d) (eC c e)
def nth{α :Type}:List α ->Nat->Option α
 | [],_=>none
 | x::l,n=>match n with
   |0=>some x
   |k+1=>nth l k
theorem aP{a :Type}:∀ (l:List a) (n:Nat),nth l n=l[n]?
 | [],_=>rfl
 |x::l,0=>rfl
 |x::l,n+1=>by simp[nth,aP l n]
def n7(E:Env)(t:TypeId)(cs:Lh)(off:Nat):Lj:=
 match und E t,E.ti t with
 |some d,some i=>bif br d then(let l:=(cs.drop off).take i.size;some (.agg ⟨l⟩))else nth cs off
 |_,_=>none
theorem fi(f:E.Ok){cs a:Lh}{off:Nat}(l:VRs σ cs a)(h:n7 E t cs off=some v)(w:World):
 ∃v',(part t ⟨a⟩ off).run E.P w=.ok v' w/\VR σ v v':=by
 unfold n7 at h;cases c:und E t with
 |none=>simp[c]at h
 |some d=>
 cases g:E.ti t with
 |none=>simp[c,g]at h
 |some i=>
 simp only[c,g]at h;cases e:br d with
 |true=>simp only[e,C',osI]at h;subst h;refine⟨.agg ⟨(a.drop off).take i.size⟩,?_,.agg ((l.drop off).take i.size)⟩;simp only[part,HB,cD f c,Hv,e,Jt,aH f g,Ih];grind
 |false=>
 simp only[e,HJ,aP]at h;obtain⟨v',n,m⟩:=l.get h;refine⟨v',?_,m⟩;have j:(⟨a⟩:Array Value)[off]? =some v':=by simpa using n
 simp[part,cD f c,e,j]
def oA(E:Env)(t:TypeId)(x:Value)(f:Nat):Lj:=
 match und E t,x with
 |some (.struct fs),.agg ⟨cs⟩=>(match nth fs.toList f with|some fd=>n7 E fd.type cs fd.offset|none=>none)
 |_,_=>none
theorem zX(d:E.Ok){f:Nat}(g:VR σ x x')(h:oA E t x f=some v)(w:World):
 ∃v',(Instr.field t x' f).run E.P w=.ok v' w/\VR σ v v':=by
 unfold oA at h;split at h;rename_i e p i;cases g with
 | agg j=>
  rename_i o;rw[aP]at h;cases c:e.toList[f]? with
  |none=>simp[c]at h
  |some n=>
  simp only[c]at h;obtain⟨v',m,l⟩:=fi d j h w;have a:e[f]? =some n:=by simpa using c
  exact⟨v',by simp[Instr.field,aj d i,a,asAgg,m],l⟩
 cases h
def fldA(E:Env)(t:TypeId)(x:Value)(f:Nat):Lj:=
 match und E t,x with
 | some (.struct fs),.pointer (some ⟨B,o,none⟩)=>(match nth fs.toList f with
   |some fd=>(match E.ti fd.type with|some i=>bif Nat.beq i.size 0 then none else some (.pointer (some ⟨B,o+fd.offset,none⟩))|none=>none)
   |none=>none)
 |_,_=>none
theorem aZ{a b:Nat}(h:Nat.beq a b=false):a≠b:=by intro e;subst e;simp at h
theorem fld_ok(p:E.Ok){f:Nat}(s:VR σ x x')(h:fldA E t x f=some v)(w:World):
 ∃v',(Instr.fieldAt t x' f).run E.P w=.ok v' w/\VR σ v v':=by
 unfold fldA at h;split at h;rename_i q B o u;cases s with
 | ptr i a=>
  rename_i b d c;rw[aP]at h;cases m:q.toList[f]? with
  |none=>simp[m]at h
  |some n=>
  simp only[m]at h;cases j:E.ti n.type with
  |none=>simp[j]at h
  |some i=>
  simp only[j]at h;cases g:Nat.beq i.size 0 with
  |true=>simp[g]at h
  |false=>
  simp only[g,HJ,osI]at h;subst h;have e:=aZ g;have l:q[f]? =some n:=by simpa using m
  refine⟨.pointer (some ⟨b,d+o+n.offset,none⟩),?_,?_⟩;simp[Instr.fieldAt,aj p u,l,Instr.sureAddr,fieldPlace,aH p j,e,aM];rw[In];exact .ptr _ a
 cases h
def idxA(E:Env)(t:TypeId)(x i:Value):Lj:=
 match i with
 | .int _ n=>(match und E t with
   | some (.array len e)=>(match x with
     | .pointer (some ⟨B,o,none⟩)=>(match E.ti e with
       |some ie=>bif decide (0<=n)&&decide (n<len)then some (.pointer (some ⟨B,o+n.toNat*ie.size,none⟩))else none
       |none=>none)
     |_=>none)
   | some (.slice e)=>(match x with
     | .slice (some ⟨B,o,none⟩) len k=>(match E.ti e with
       |some ie=>bif decide (0<=n)&&decide (n<len)then some (.pointer (some ⟨B,o+n.toNat*ie.size,none⟩))else none
       |none=>none)
     |_=>none)
   |_=>none)
 |_=>none
theorem idx_ok(p:E.Ok){i u:Value}(F:VR σ x x')(H:VR σ i u)(h:idxA E t x i=some v)(w:World):
 ∃v',(Instr.indexAt t x' u).run E.P w=.ok v' w/\VR σ v v':=by
 unfold idxA at h;split at h;rename_i k n;cases H;split at h;rename_i l e s;split at h;rename_i B o;cases F with
 | ptr G f=>
  rename_i b d c;split at h;rename_i q g;by_cases j:0<=n/\n<l;have:(decide (0<=n)&&decide (n<(l:Int)))=true:=by simp[j.1,j.2]
  rw[this]at h;simp only[C',osI]at h;subst h;refine⟨.pointer (some ⟨b,d+o+n.toNat*q.size,none⟩),?_,?_⟩;simp[Instr.indexAt,asIntOf,aj p s,Instr.sureAddr,j,aH p g,aM];rw[In];exact .ptr _ f;grind;cases h
 cases h;rename_i e s;split at h;rename_i B o l J;split at h;rename_i q g;by_cases j:0<=n/\n<l;have:(decide (0<=n)&&decide (n<(l:Int)))=true:=by simp[j.1,j.2]
 rw[this]at h;simp only[C',osI]at h;subst h;cases F with
 |slice u z C f D=>rename_i b d c;refine⟨.pointer (some ⟨b,d+o+n.toNat*q.size,none⟩),?_,?_⟩;simp[Instr.indexAt,asIntOf,aj p s,Instr.sureAddr,j,aH p g,aM];rw[In];exact .ptr _ f
 |sliceU z f D=>rename_i b d c;refine⟨.pointer (some ⟨b,d+n.toNat*q.size,none⟩),?_,?_⟩;simp[Instr.indexAt,asIntOf,aj p s,Instr.sureAddr,j,aH p g,aM];rw[IW];exact .ptr _ f
 |sliceV u z C f D=>rename_i b d c;refine⟨.pointer (some ⟨b,d+o+n.toNat*q.size,none⟩),?_,?_⟩;simp[Instr.indexAt,asIntOf,aj p s,Instr.sureAddr,j,aH p g,aM];rw[In];exact .ptr _ f
 |sliceE a a' C=>simp at j;omega
 |gs0=>simp at j;omega
 |gs I G z C m f D M K L=>rename_i b d c;refine⟨.pointer (some ⟨b,d+o+n.toNat*q.size,none⟩),?_,?_⟩;simp[Instr.indexAt,asIntOf,aj p s,Instr.sureAddr,j,aH p g,aM];rw[In];exact .ptr _ f
 grind;cases h;cases h;cases h;cases h
def vU(E:Env)(A:AH)(t:TypeId)(a:Value):Lj:=
 match a with
 | .pointer (some ⟨B,o,none⟩)=>(match und E t with
   | some d=>bif br d then(match E.ti t with
    |some i=>(match gr A B o i.size with|some l=>some (.agg ⟨l⟩)|none=>none)
    | none=>none)
     else(match look A B with|some c=>nth c o|none=>none)
   |none=>none)
 |_=>none
theorem vR(j:E.Ok)(R:Rel E.P σ A w){a:Value}(u:VR σ a a')(h:vU E A t a=some v):
 ∃v',(Instr.loadAt t a').run E.P w=.ok v' w/\VR σ v v':=by
 unfold vU at h;split at h;rename_i B o;cases u with
 | ptr C f=>
  rename_i b d c;split at h;rename_i dd p;cases e:br dd with
  |true=>simp only[e,C']at h;split at h;rename_i i s;split at h;rename_i l m;cases h;obtain⟨q,g,n⟩:=ld R m f;exact⟨.agg ⟨q⟩,by simp[Instr.loadAt,Instr.sureAddr,loadVar,cD j p,e,aH j s,n],.agg g⟩;cases h;cases h
  |false=>simp only[e,HJ]at h;split at h;rename_i G m;rw[aP]at h;obtain⟨b',F,D,v',g,n,z⟩:=gL R m h;rw[f]at g;cases g;exact⟨v',by simp[Instr.loadAt,Instr.sureAddr,loadVar,cD j p,e,n],z⟩;cases h
  cases h
 cases h
def lp (E:Env)(t:TypeId)(x i:Value):Lj:=
 match i with
 | .int _ n=>(match und E t with
   | some (.array len e)=>(match x with
     | .agg ⟨cs⟩=>(match E.ti e with
       |some ie=>bif decide (0<=n)&&decide (n<len)then n7 E e cs (n.toNat*ie.size)else none
       |none=>none)
     |_=>none)
   | some .string=>(match x with
     | .string s=>bif decide (0<=n)then(match nth s.data.toList n.toNat with|some b=>some (.int .u8 b.toNat)|none=>none)else none
     |_=>none)
   |_=>none)
 |_=>none
theorem oP(s:ByteArray)(n:Nat):s[n]? =s.data.toList[n]?:=by
 by_cases h:n<s.size;have a:n<s.data.toList.length:=by simpa using h
 rw[getElem?_pos s n h,Hr a];rfl;simp_all
theorem zI(d:E.Ok){i l:Value}(m:VR σ x x')(o:VR σ i l)(h:lp E t x i=some v)(w:World):
 ∃v',(Instr.index t x' l).run E.P w=.ok v' w/\VR σ v v':=by
 unfold lp at h;split at h;rename_i k n;cases o;split at h;rename_i c e f;split at h;rename_i B;cases m with
 | agg p=>
  split at h;rename_i z g;by_cases a:0<=n/\n<c;have:(decide (0<=n)&&decide (n<(c:Int)))=true:=by simp[a.1,a.2]
  rw[this]at h;simp only[C']at h;obtain⟨v',u,q⟩:=fi d p h w;exact⟨v',by simp[Instr.index,asIntOf,aj d f,a,aH d g,u],q⟩;grind;cases h
 cases h;rename_i f;split at h;rename_i s;cases m;by_cases a:0<=n;simp only[a,IZ,C',aP]at h;cases j:s.data.toList[n.toNat]? with
 |none=>simp[j]at h
 | some b=>
  simp only[j,osI]at h;subst h;refine⟨_,?_,.int _ _⟩;have:s[n.toNat]? =some b:=by rw[oP];exact j
  simp[Instr.index,asIntOf,aj d f,a,this]
 simp[a]at h;cases h;cases h;cases h
def dc(x:Lj)(dflt:Nat):Lk:=
 match x with
 |none=>some dflt
 |some (.int _ n)=>bif decide (0<=n)then some n.toNat else none
 |_=>none
def bnds(len cap:Nat)(lo hi mx:Lj):Option (Nat×Nat×Nat):=
 match dc mx cap,dc hi len,dc lo 0 with
 |some m,some h,some l=>bif Nat.ble m cap&&(Nat.ble h m&&(Nat.ble l h&&(hi.isSome||mx.isNone)))then some (l,h,m)else none
 |_,_,_=>none
theorem bS{y n:Nat}{c:BoundsCode}(h:dc (some x) 0=some n)(e:n<=y):(Instr.sliceBound x y c).run P w=.ok n w:=by
 unfold dc at h;split at h;cases ‹some x=none›;rename_i k i d;cases d;by_cases a:0<=i;simp only[a,IZ,C',osI]at h;subst h;have:i<=(y:Int):=by omega
 simp[Instr.sliceBound,asIntOf,a,this];simp[a]at h;cases h
theorem c9{b:Bool}{len cap cp l h m:Nat}{lo i g:Lj}(f:bnds len cap lo i g=some (l,h,m))(L:cap<=cp):
 (Instr.sliceBounds b len cp lo i g).run P w=.ok (l,h,if g.isSome then m else cp) w/\l<=h/\h<=m/\m<=cap/\(g=none->m=cap)/\(i=none->h=len):=by
 unfold bnds at f;split at f;rename_i o q F G B e;cases d:(Nat.ble o cap&&(Nat.ble q o&&(Nat.ble F q&&(i.isSome||g.isNone))))with
 |false=>rw[d]at f;simp at f
 | true=>
  rw[d]at f;simp only[C',osI,Hs]at f;obtain⟨rfl,rfl,rfl⟩:=f;simp only[f',HA,Iu]at d;obtain⟨K,J,p,I⟩:=d;have D:g=none->o=cap:=by grind [dc]
  have C:i=none->q=len:=by grind [dc]
  refine⟨?_,p,J,K,D,C⟩;have a:∀ (x:Value) (H s:Nat),dc (some x) H=dc (some x) s:=λx _ _=>by cases x<;>rfl
  unfold Instr.sliceBounds;cases g with
  | none=>
   have:=D rfl;cases i with
   | none=>
    have:=C rfl;subst this;cases lo with
    |none=>simp[dc]at e;subst e;simp
    |some x=>have n:=λc=>bS (P:=P) (w:=w) (c:=c) (a x 0 0▸e) p;simp[n]
   |some y=>
   have j:=λc=>bS (P:=P) (w:=w) (y:=cp) (c:=c) (a y len 0▸B) (by omega);cases lo with
   |none=>simp[dc]at e;subst e;simp[j]
   |some x=>have n:=λc=>bS (P:=P) (w:=w) (c:=c) (a x 0 0▸e) p;simp[n,j]
  |some z=>
  cases i with
  |none=>simp at I
  |some y=>
  have u:=λc=>bS (P:=P) (w:=w) (y:=cp) (c:=c) (a z cap 0▸G) (by omega);have j:=λc=>bS (P:=P) (w:=w) (y:=o) (c:=c) (a y len 0▸B) (by omega);cases lo with
  |none=>simp[dc]at e;subst e;simp[j,u]
  |some x=>have n:=λc=>bS (P:=P) (w:=w) (c:=c) (a x 0 0▸e) p;simp[n,j,u]
 cases f
def av(l:List UInt8):ByteArray:=⟨⟨l⟩⟩
theorem uc(s:ByteArray)(a b:Nat):s.extract a b=av ((s.data.toList.drop a).take (b-a)):=by apply IS;rw[Lib.extract_data];rfl
def sliA (E :Env)(t:TypeId)(x:Value)(lo hi mx:Lj):Lj:=
 match und E t with
 | some (.array n e)=>(match x with
   | .pointer (some ⟨B,o,none⟩)=>(match E.ti e,bnds n n lo hi mx with
     |some ie,some (l,h,m)=>bif Nat.ble unk m then none else some (.slice (some ⟨B,bif Nat.beq m l then o else o+l*ie.size,none⟩) (h-l) (m-l))
     |_,_=>none)
   |_=>none)
 | some .string=>(match x with
   | .string s=>(match mx,bnds s.size s.size lo hi none with
     |none,some (l,h,_)=>some (.string (av ((s.data.toList.drop l).take (h-l))))
     |_,_=>none)
   |_=>none)
 | some (.slice e)=>(match x with
   | .slice none n k=>(match E.ti e,bnds n k lo hi mx with
     |some _,some (l,h,m)=>some (.slice none (h-l) (m-l))
     |_,_=>none)
   | .slice (some ⟨B,o,none⟩) n k=>(match E.ti e with
     | some ie=>
       bif Nat.ble (unk+2) k then none
       else bif Nat.ble unk k then
        (match mx with
        | none=>(match bnds n n lo hi none with
          | some (l,h,_)=>
            bif Nat.beq l 0 then some (.slice (some ⟨B,o,none⟩) h k)
            else bif Nat.beq l h then some (.slice (some ⟨B,o,none⟩) 0 (unk+2))
            else some (.slice (some ⟨B,o+l*ie.size,none⟩) (h-l) (unk+1))
          |none=>none)
        | some z=>(match bnds n n lo hi (some z)with
          |some (l,h,m)=>bif Nat.ble unk m then none else some (.slice (some ⟨B,bif Nat.beq m l then o else o+l*ie.size,none⟩) (h-l) (m-l))
          |none=>none))
       else(match bnds n k lo hi mx with
        |some (l,h,m)=>bif Nat.ble unk m then none else some (.slice (some ⟨B,bif Nat.beq m l then o else o+l*ie.size,none⟩) (h-l) (m-l))
        |none=>none)
     |none=>none)
   |_=>none)
 |_=>none
theorem mint{m l:Nat}{c :Type}(a b: c):(bif Nat.beq m l then a else b)=if m=l then a else b:=by by_cases h:m=l;subst h;simp;grind [Nat.beq,absurd,Ho]
theorem sli_ok(u:E.Ok){lo Z G:Lj}(S:VR σ x x')(h:sliA E t x lo Z G=some v)(w:World):
 ∃v',(Instr.sliceAt t x' lo Z G).run E.P w=.ok v' w/\VR σ v v':=by
 unfold sliA at h;split at h;rename_i n e L;split at h;rename_i B o;cases S with
 | ptr o' g=>
  rename_i b d c;split at h;rename_i Q l C m q F;cases j:Nat.ble unk m with
  |true=>simp[j]at h
  | false=>
   simp only[j,HJ,osI]at h;subst h;obtain⟨f,h1,h2,h3,K,_⟩:=c9 (P:=E.P) (w:=w) (b:=false) F (Hw n);have em:(if G.isSome then m else n)=m:=by cases G<;>simp;exact(K rfl).symm
   rw[em]at f;have U:m-l<unk:=by grind [unk,HA]
   rw[mint];refine⟨_,by simp only[Instr.sliceAt,HB,aj u L,Hv,Instr.sureAddr,Ih,f,aH u q];rfl,?_⟩;by_cases p:m=l;simp only[p,Jt];exact .slice _ _ _ g (by omega);simp only[p,I2,aM,In];exact .slice _ _ _ g U
  cases h
 cases h;rename_i L;split at h;rename_i s;cases S;split at h;rename_i l C m F;cases h;obtain⟨f,h1,h2,h3,K,_⟩:=c9 (P:=E.P) (w:=w) (b:=false) F (Hw s.size);refine⟨_,?_,.string _⟩;simp[Instr.sliceAt,Instr.slice,aj u L,f,uc];cases h;cases h;rename_i e L;split at h;rename_i n k;cases S;split at h;rename_i Q l C m q F;cases h;obtain⟨f,h1,h2,h3,K,_⟩:=c9 (P:=E.P) (w:=w) (b:=true) F (Hw k);have em:(if G.isSome then m else k)=m:=by cases G<;>simp;exact(K rfl).symm
 rw[em]at f;refine⟨.slice none (C-l) (m-l),?_,.slice0 _ _⟩;simp[Instr.sliceAt,Instr.slice,aj u L,f,aH u q];cases h;rename_i B o n k;split at h;rename_i Q q;cases X:Nat.ble (unk+2) k with
 |true=>simp[X]at h
 | false=>
  simp only[X,HJ]at h;have a1:k<unk+2:=by grind [unk,HA]
  cases O:Nat.ble unk k with
  | true=>
   simp only[O,C']at h;have Y:unk<=k:=IF O;have D:∃ b d c H,σ B=some (b,d,c)/\x'=.slice (some ⟨b,d+o,none⟩) n H/\n<=H/\(k=unk->o=0/\H=c):=by
    cases S with
    |slice i' M N g hk=>omega
    |sliceU M g R=>grind
    |sliceV i' M N g R=>grind
    |sliceE a a' N=>omega
    |gs0 B o m a hm=>omega
    |gs lo o' M N m g hk hc ho hm=>omega
   obtain⟨b,d,c,H,g,rfl,R,hU⟩:=D;split at h;split at h;rename_i l C m F;obtain⟨f,h1,h2,h3,K,_⟩:=c9 (P:=E.P) (w:=w) (b:=true) F R;simp only[JE,IR,I2]at f;have i:(Instr.sliceAt t (.slice (some ⟨b,d+o,none⟩) n H) lo Z none).run E.P w=.ok (.slice (some (if H=l then⟨b,d+o,none⟩else(⟨b,d+o,none⟩:Addr).add (l*Q.size))) (C-l) (H-l)) w:=by simp only[Instr.sliceAt,Instr.slice,HB,aj u L,Hv,f,aH u q,Ih,Ik];split<;>rfl
   have a2:m=n:=K rfl;refine⟨_,i,?_⟩;cases J:Nat.beq l 0 with
   | true=>
    simp only[J,C',osI]at h;subst h;obtain rfl:l=0:=Ho J;have ea:(if H=0 then(⟨b,d+o,none⟩:Addr)else(⟨b,d+o,none⟩:Addr).add (0*Q.size))=⟨b,d+o,none⟩:=by simp[aM]
    rw[ea];simp only[Kd];by_cases V:k=unk;obtain⟨rfl,rfl⟩:=hU V;subst V;exact .sliceU _ g (by omega);obtain rfl:k=unk+1:=by omega
    exact .sliceV _ _ _ g (by omega)
   | false=>
    simp only[J,HJ]at h;have a0:=aZ J;cases I:Nat.beq l C with
    |true=>simp only[I,C',osI]at h;subst h;obtain rfl:l=C:=Ho I;simp only[IX];exact .sliceE _ _ _
    |false=>simp only[I,HJ,osI]at h;subst h;have:=aZ I;rw[Hm (by omega),aM,In];exact .sliceV _ _ _ g (by omega)
   cases h;rename_i z;split at h;rename_i l C m F;cases j:Nat.ble unk m with
   |true=>simp[j]at h
   | false=>
    simp only[j,HJ,osI]at h;subst h;obtain⟨f,h1,h2,h3,K,_⟩:=c9 (P:=E.P) (w:=w) (b:=true) F R;simp only[Option.isSome_some,Jt]at f;have U:m<unk:=by grind [unk,HA]
    rw[mint];have i:(Instr.sliceAt t (.slice (some ⟨b,d+o,none⟩) n H) lo Z (some z)).run E.P w=.ok (.slice (some (if m=l then⟨b,d+o,none⟩else(⟨b,d+o,none⟩:Addr).add (l*Q.size))) (C-l) (m-l)) w:=by simp only[Instr.sliceAt,Instr.slice,HB,aj u L,Hv,f,aH u q,Ih,Ik];split<;>rfl
    refine⟨_,i,?_⟩;by_cases p:m=l;simp only[p,Jt];exact .slice _ _ _ g (by omega);simp only[p,I2,aM,In];exact .slice _ _ _ g (by omega)
   cases h
  |false=>
  simp only[O,HJ]at h;have Y:k<unk:=by grind [unk,HA]
  have D:∃ b d c,σ B=some (b,d,c)/\x'=.slice (some ⟨b,d+o,none⟩) n k:=by
   cases S with
   |slice i' M N g hk=>exact⟨_,_,_,g,rfl⟩
   |sliceU M g R=>omega
   |sliceV i' M N g R=>omega
   |sliceE a a' N=>omega
   |gs0 B o m a hm=>omega
   |gs lo o' M N m g hk hc ho hm=>omega
  obtain⟨b,d,c,g,rfl⟩:=D;split at h;rename_i l C m F;cases j:Nat.ble unk m with
  |true=>simp[j]at h
  | false=>
   simp only[j,HJ,osI]at h;subst h;obtain⟨f,h1,h2,h3,K,_⟩:=c9 (P:=E.P) (w:=w) (b:=true) F (Hw k);have em:(if G.isSome then m else k)=m:=by cases G<;>simp;exact(K rfl).symm
   rw[em]at f;rw[mint];have i:(Instr.sliceAt t (.slice (some ⟨b,d+o,none⟩) n k) lo Z G).run E.P w=.ok (.slice (some (if m=l then⟨b,d+o,none⟩else(⟨b,d+o,none⟩:Addr).add (l*Q.size))) (C-l) (m-l)) w:=by simp only[Instr.sliceAt,Instr.slice,HB,aj u L,Hv,f,aH u q,Ih,Ik];split<;>rfl
   refine⟨_,i,?_⟩;by_cases p:m=l;simp only[p,Jt];exact .slice _ _ _ g (by omega);simp only[p,I2,aM,In];exact .slice _ _ _ g (by omega)
  cases h
 cases h;cases h;cases h
theorem _root_.Go.JR:type_of% @List.foldl_cons:=@List.foldl_cons
theorem _root_.Go.H9:type_of% @Array.toList_inj:=@Array.toList_inj
abbrev _root_.Go.HL:=@decide_eq_true_eq
theorem _root_.Go.Iv:type_of% @Nat.blt_eq:=@Nat.blt_eq
abbrev _root_.Go.JO:=@Go.ByteArray.toList_eq
def qc(place:Nat->Option (Nat×Nat))(cells:Lh):List (Nat×Value)->Option Lh
 | []=>some cells
 | (i,v)::rest=>
   match place i with
   |none=>none
   | some (off,size)=>
     let vs:=v.cells.toList
     bif Nat.beq vs.length size&&Nat.ble (off+vs.length) cells.length then qc place (over cells off vs) rest else none
inductive PRs (σ:Sig):List (Nat×Value)->List (Nat×Value)->Prop
 |nil:PRs σ [] []
 |cons {i:Nat}{v v':Value}{l l':List (Nat×Value)}(h:VR σ v v') (t:PRs σ l l'):PRs σ ((i,v)::l) ((i,v')::l')
theorem VRs.over{c c' vs vs':Lh}{i:Nat}(h:VRs σ c c')(k:VRs σ vs vs'):VRs σ (AM.over c i vs) (AM.over c' i vs'):=by unfold AM.over;rw[k.length];exact((h.take i).append k).append (h.drop _)
theorem lB:∀ (vs:Lh) (k off:Nat) (cells:Array Value),off+k+vs.length<=cells.size->
 ((vs.zipIdx k).foldl (λ(cs:Array Value) (p:Value×Nat)=>cs.setIfInBounds (off+p.2) p.1) cells).toList=over cells.toList (off+k) vs
 | [],k,off,cells,_=>by simp[over]
 |v::vs,k,off,cells,h=>by rw[List.zipIdx_cons,JR,lB vs (k+1) off _ (by simp at h ⊢;omega)];apply I3;intro j;rw[bZ (by simp at h ⊢;omega),bZ (by simp at h ⊢;omega)];grind
theorem mX{σ:Sig}{c:Nat->Option (Nat×Nat)}:∀ {g d:List (Nat×Value)}{cs a r:Lh},PRs σ g d->VRs σ cs a->qc c cs g=some r->
 ∃m,Instr.fill c ⟨a⟩ d=some ⟨m⟩/\VRs σ r m
 |_,_,cs,a,r,.nil,hc,h=>by simp only[qc,osI]at h;subst h;exact⟨a,rfl,hc⟩
 | _,_,cs,a,r,.cons (i:=i) (v:=v) (v':=v') hv ht,hc,h=>by
  simp only[qc]at h;unfold Instr.fill;cases q:c i with
  |none=>simp[q]at h
  |some x=>
  obtain⟨e,f⟩:=x;simp only[q]at h ⊢;cases l:(Nat.beq v.cells.toList.length f&&Nat.ble (e+v.cells.toList.length) cs.length);rw[l]at h;simp at h;rw[l]at h;simp only[C']at h;simp only[f',HA]at l;obtain⟨n,B⟩:=l;have n:=Ho n;have j:=hv.cells;have u:v'.cells.size=f:=by have:=j.length;simp at this n;omega
  have s:e+v'.cells.size<=a.length:=by have:=j.length;have:=hc.length;simp at*;omega
  have o:¬ ((decide (v'.cells.size≠f)||decide (e+v'.cells.size>(⟨a⟩:Array Value).size))=true):=by rw[u]at s ⊢;simp;omega
  rw[Hm o];have z:v'.cells.zipIdx.foldl (λcs (p:Value×Nat)=>cs.setIfInBounds (e+p.2) p.1) (⟨a⟩:Array Value)=⟨over a e v'.cells.toList⟩:=by apply H9.1;rw[<-Array.foldl_toList,Array.toList_zipIdx,lB _ 0 e ⟨a⟩ (by simpa using s)];rfl
  obtain⟨m,D,C⟩:=mX ht (hc.over j) h;grind
def j0(ρ:Operand->Lj):List (Nat×Operand)->Option (List (Nat×Value))
 | []=>some []
 | (i,x)::l=>match ρ x with
   |some v=>(match j0 ρ l with|some r=>some ((i,v)::r)|none=>none)
   |none=>none
theorem mg{σ:Sig}{ρ:Operand->Lj}{a:Operand->Value}(c:OpR σ ρ a):∀ {l:List (Nat×Operand)}{r:List (Nat×Value)},j0 ρ l=some r->PRs σ r (l.map λp=>(p.1,a p.2))
 | [],r,h=>by simp[j0]at h;subst h;exact .nil
 | (i,x)::l,r,h=>by
  simp only[j0]at h;cases d:ρ x with
  |none=>simp[d]at h
  |some v=>
  cases e:j0 ρ l with
  |none=>simp[d,e]at h
  |some f=>simp only[d,e,osI]at h;subst h;exact .cons (c x v d) (mg c e)
def iw(E:Env):List Field->Option Ld
 | []=>some []
 | f::l=>match E.ti f.type with
   |some i=>(match iw E l with|some r=>some ((f.offset,i.size)::r)|none=>none)
   |none=>none
theorem nZ{E:Env}(d:E.Ok):∀ {l:List Field}{r:Ld},iw E l=some r->l.mapM (λf=>(E.P.info? f.type).map λi=>(f.offset,i.size))=some r
 | [],r,h=>by simp[iw]at h;subst h;rfl
 | f::l,r,h=>by
  simp only[iw]at h;cases a:E.ti f.type with
  |none=>simp[a]at h
  |some i=>
  cases c:iw E l with
  |none=>simp[a,c]at h
  |some e=>simp only[a,c,osI]at h;subst h;simp[List.mapM_cons,d.ti _ _ a,nZ d c]
def xQ (E:Env)(t:TypeId)(parts:List (Nat×Value)):Lj:=
 match E.ti t with
 | some it=>(match it.zero with
   | some z=>bif z.cells.toList.all scal then
     (match und E t with
     | some (.array _ e)=>(match E.ti e with
       |some ie=>(match qc (λi=>some (i*ie.size,ie.size)) z.cells.toList parts with|some r=>some (.agg ⟨r⟩)|none=>none)
       |none=>none)
     | some (.struct fs)=>(match iw E fs.toList with
       |some pl=>(match qc (nth pl) z.cells.toList parts with|some r=>some (.agg ⟨r⟩)|none=>none)
       |none=>none)
     |_=>none)else none
   |none=>none)
 |none=>none
theorem Ak(d:E.Ok){c:List (Nat×Value)}{a:Array (Nat×Value)}(C:PRs σ c a.toList)(h:xQ E t c=some v)(w:World):
 ∃v',(Instr.build t a).run E.P w=.ok v' w/\VR σ v v':=by
 unfold xQ at h;split at h;rename_i F i;split at h;rename_i z B;cases l:z.cells.toList.all scal;rw[l]at h;simp at h;rw[l]at h;simp only[C']at h;have g:=bt l σ;split at h;rename_i n e j;split at h;rename_i G p;split at h;rename_i r m;cases h;obtain⟨f,s,q⟩:=mX C g m;refine⟨.agg ⟨f⟩,run_build w t a ⟨f⟩ ?_,.agg q⟩;simp only[Program.built,d.ti _ _ i,cd d j,B,d.ti _ _ p];exact s;cases h;cases h;rename_i H j;split at h;rename_i u o;split at h;rename_i r m;cases h;obtain⟨f,s,q⟩:=mX C g m;refine⟨.agg ⟨f⟩,run_build w t a ⟨f⟩ ?_,.agg q⟩;have D:(λx=>u.toArray[x]?)=nth u:=by funext x;rw[aP];simp
 simp only[Program.built,d.ti _ _ i,cd d j,B,nZ d o,D];exact s;cases h;cases h;cases h;cases h;cases h
def fR(s:Int):Bool:=decide (-4611686018427387904<=s)&&decide (s<=4611686018427387903)
theorem cO{s:Int}(h:fR s=true):IntKind.i64.wrap s=s:=by
 simp only[fR,f',HL]at h;have c:(2:Int) ^ 64=18446744073709551616:=by decide
 have a:(2:Int) ^ (64-1)=9223372036854775808:=by decide
 simp only[IntKind.wrap,IntKind.bits,IntKind.signed,Bool.true_and,HL,c,a];split<;>omega
def cmpI(op:BinOp)(x y:Int):Lj:=
 match op with
 | .eql=>some (.bool (decide (x=y)))
 | .neq=>some (.bool (!decide (x=y)))
 | .lss=>some (.bool (decide (x<y)))
 | .leq=>some (.bool (decide (x<=y)))
 | .gtr=>some (.bool (decide (y<x)))
 | .geq=>some (.bool (decide (y<=x)))
 |_=>none
def eqL:List UInt8->List UInt8->Bool
 | [],[]=>true
 |a::x,b::y=>bif Nat.beq a.toNat b.toNat then eqL x y else false
 |_,_=>false
theorem eH:∀ (x y:List UInt8),eqL x y=true↔x=y
 | [],[]=>by simp[eqL]
 | [],_::_=>by simp[eqL]
 |_::_,[]=>by simp[eqL]
 | a::x,b::y=>by
  simp only[eqL];by_cases h:a.toNat=b.toNat;have c:a=b:=UInt8.toNat_inj.1 h;subst c;simp[eH x y];have:Nat.beq a.toNat b.toNat=false:=by grind [Nat.beq,absurd,Ho]
  grind
def ltL:List UInt8->List UInt8->Bool
 |_,[]=>false
 | [],_::_=>true
 |a::x,b::y=>bif Nat.blt a.toNat b.toNat then true else bif Nat.beq a.toNat b.toNat then ltL x y else false
theorem blt_eq(a b:Nat):Nat.blt a b=decide (a<b):=by rw[Ir];simp[Iv]
theorem beq_eq(a b:Nat):Nat.beq a b=decide (a=b):=by rw[Ir];simp[Hy]
theorem Bg:∀ (x y:List UInt8),ltL x y=Op.bytesLess x y
 | [],[]=>rfl
 |_::_,[]=>rfl
 | [],_::_=>rfl
 |a::x,b::y=>by simp only[ltL,Op.bytesLess,blt_eq,beq_eq,Bg x y];grind [UInt8.lt_iff_toNat_lt,UInt8.toNat_inj]
def strO(op:BinOp)(x y:List UInt8):Lj:=
 match op with
 | .add=>bif Nat.ble (x.length+y.length) 4611686018427387904 then some (.string (av (x++y)))else none
 | .eql=>some (.bool (eqL x y))
 | .neq=>some (.bool (!eqL x y))
 | .lss=>some (.bool (ltL x y))
 | .leq=>some (.bool (ltL x y||eqL x y))
 | .gtr=>some (.bool (!(ltL x y||eqL x y)))
 | .geq=>some (.bool (!ltL x y))
 |_=>none
def gu(op:BinOp)(a b:Value):Lj:=
 match a,b with
 | .int .i64 x,.int .i64 y=>(match op with
   | .add=>let s:=x+y;bif fR s then some (.int .i64 s)else none
   | .sub=>let s:=x-y;bif fR s then some (.int .i64 s)else none
   | .mul=>let s:=x*y;bif fR s then some (.int .i64 s)else none
   |op=>cmpI op x y)
 | .int .u8 x,.int .u8 y=>cmpI op x y
 | .string x,.string y=>strO op x.data.toList y.data.toList
 |_,_=>none
theorem gw{c:BinOp}{x:Operand}{k d:IntKind}{a b:Int}:(eqGuard c t x y (.int k a) (.int d b)).run P w=.ok () w:=by cases c<;>rfl
theorem qg{c:BinOp}{x:Operand}{a b:ByteArray}:(eqGuard c t x y (.string a) (.string b)).run P w=.ok () w:=by cases c<;>rfl
theorem xB{c:BinOp}{k:IntKind}{a b:Int}(h:cmpI c a b=some v):(binOp c t (.int k a) (.int k b)).run P w=.ok v w:=by unfold cmpI at h;split at h<;>simp only[osI,reduceCtorEq]at h<;>subst h<;>simp[binOp,Op.intCmp,bne]<;>first|rfl|exact beq_eq_decide _ _|skip
theorem kO(x y:ByteArray):x++y=av (x.data.toList++y.data.toList):=by apply IS;simp[av]
theorem CD{d:BinOp}{x y:ByteArray}(h:strO d x.data.toList y.data.toList=some v):(binOp d t (.string x) (.string y)).run P w=.ok v w:=by
 have f:(x.toList==y.toList)=eqL x.data.toList y.data.toList:=by rw[JO,JO,Ir,eH];simp
 have e:Op.bytesLess x.toList y.toList=ltL x.data.toList y.data.toList:=by rw[JO,JO,Bg]
 unfold strO at h;split at h;cases a:Nat.ble (x.data.toList.length+y.data.toList.length) 4611686018427387904;rw[a]at h;simp at h;rw[a]at h;simp only[C',osI]at h;subst h;have a:=IF a;have c:¬ (((x.size+y.size:Nat):Int)>IntKind.i64.max):=by have:x.size=x.data.toList.length:=rfl;have:y.size=y.data.toList.length:=rfl;simp only[IntKind.max,IntKind.signed,IntKind.bits];simp at*;omega
 simp only[binOp,Op.stringOp];rw[Hm c,kO];rfl;all_goals first|(cases h;simp[binOp,Op.stringOp,f,e])|cases h
theorem ub{d:BinOp}{x:Operand}{a:Value}(h:gu d a b=some v):
 (do eqGuard d t x y a b;binOp d t a b).run P w=.ok v w:=by unfold gu at h;split at h;rename_i a b;simp only[HB,gw,Hv];split at h;cases c:fR (a+b);simp[c]at h;simp only[c,C',osI]at h;subst h;simp[binOp,Op.intArith,cO c];cases c:fR (a-b);simp[c]at h;simp only[c,C',osI]at h;subst h;simp[binOp,Op.intArith,cO c];cases c:fR (a*b);simp[c]at h;simp only[c,C',osI]at h;subst h;simp[binOp,Op.intArith,cO c];exact xB h;simp only[HB,gw,Hv];exact xB h;simp only[HB,qg,Hv];exact CD h;cases h
def vF(E:Env)(t:TypeId)(a b:Value):Bool:=
 match und E t with
 |some (.pointer _)=>(match a,b with| .pointer (some _),.pointer none=>true| .pointer none,.pointer (some _)=>true|_,_=>false)
 |some (.slice _)=>(match a,b with| .slice (some _) _ k,.slice none _ _=>Nat.blt k (unk+3)| .slice none _ _,.slice (some _) _ k=>Nat.blt k (unk+3)|_,_=>false)
 |some (.map _ _)=>(match a,b with| .map (some _),.map none=>true| .map none,.map (some _)=>true|_,_=>false)
 |some (.func _ _ _)=>(match a,b with| .func fn _ _,.nilFunc=>Fn.still fn| .nilFunc,.func fn _ _=>Fn.still fn|_,_=>false)
 |some (.interface _)=>(match a,b with| .iface _ _,.nilIface=>true| .nilIface,.iface _ _=>true|_,_=>false)
 |_=>false
theorem fx{a:Value}{x:Operand}(g:(Op.equal t a b).run P w=.ok r w)
 (d:(eqGuard .eql t x y a b).run P w=.ok () w) (c:(eqGuard .neq t x y a b).run P w=.ok () w)
 (f:binOp .eql t a b=do pure (.bool (<-Op.equal t a b))) (e:binOp .neq t a b=do pure (.bool (!(<-Op.equal t a b)))):
 (do eqGuard .eql t x y a b;binOp .eql t a b).run P w=.ok (.bool r) w/\(do eqGuard .neq t x y a b;binOp .neq t a b).run P w=.ok (.bool (!r)) w:=by simp_all
theorem zm(c:E.Ok){a:Value}(f:VR σ a a')(e:VR σ b b')(h:vF E t a b=true)(x y:Operand)(w:World):
 (do eqGuard .eql t x y a' b';binOp .eql t a' b').run E.P w=.ok (.bool false) w/\(do eqGuard .neq t x y a' b';binOp .neq t a' b').run E.P w=.ok (.bool true) w:=by unfold vF at h;split at h<;>rename_i d<;>(try (split at h))<;>(try (cases h;done))<;>cases f<;>cases e<;>(try (simp[Fn.still]at h;done))<;>(try (exfalso;rw[blt_eq,HL]at h;omega))<;>exact fx (r:=false) (by unfold Op.equal Op.maxDepth;rw[show(10000:Nat)=9999+1 from rfl];unfold Op.equalIn;rw[HB,aj c d,Hv];rfl) rfl rfl rfl rfl
def sameP(E:Env)(t:TypeId)(a b:Value):Bool:=
 match und E t,a,b with
 |some (.pointer u),.pointer (some ⟨B,i,none⟩),.pointer (some ⟨B',i',none⟩)=>(match E.ti u with|some _=>Nat.beq B B'&&Nat.beq i i'|none=>false)
 |_,_,_=>false
theorem yA(e:E.Ok){a:Value}(p:VR σ a a')(o:VR σ b b')(h:sameP E t a b=true)(x y:Operand)(w:World):
 (do eqGuard .eql t x y a' b';binOp .eql t a' b').run E.P w=.ok (.bool true) w/\(do eqGuard .neq t x y a' b';binOp .neq t a' b').run E.P w=.ok (.bool false) w:=by
 unfold sameP at h;split at h;rename_i u B i C s m;split at h;rename_i j n;simp only[f',Hy]at h;obtain⟨rfl,rfl⟩:=h;cases p with
 | ptr _ q=>
  cases o with
  |ptr _ f=>
  rw[q]at f;cases f;refine fx (r:=true) ?_ rfl rfl rfl rfl;rename_i l g z;have c:∀ d:Nat,(Op.equalIn (d+1) t (.pointer (some ⟨l,g+i,none⟩)) (.pointer (some ⟨l,g+i,none⟩))).run E.P w=.ok true w:=λd=>by simp[Op.equalIn,Jh (cd e m),sizeOf,typeInfo,e.ti _ _ n,run_sameAddr_same]
  exact c 9999
 cases h;cases h
def binA(E:Env)(op:BinOp)(t:TypeId)(x y:Operand)(a b:Value):Lj:=
 match gu op a b with
 |some v=>some v
 | none=>
   bif flat a&&flat b then(match prun E.P (do eqGuard op t x y a b;binOp op t a b)with|some v=>bif flat v then some v else none|none=>none)
   else bif vF E t a b then(match op with| .eql=>some (.bool false)| .neq=>some (.bool true)|_=>none)
   else bif sameP E t a b then(match op with| .eql=>some (.bool true)| .neq=>some (.bool false)|_=>none)
   else none
theorem bin_ok(n:E.Ok){j:BinOp}{x:Operand}{a:Value}(i:VR σ a a')(g:VR σ b b')(h:binA E j t x y a b=some v)(w:World):
 ∃v',(do eqGuard j t x y a' b';binOp j t a' b').run E.P w=.ok v' w/\VR σ v v':=by
 unfold binA at h;split at h
 · rename_i u c;simp only[osI]at h;subst h;have m:flat a=true/\flat b=true/\flat u=true:=by
    unfold gu at c;split at c<;>try (cases c;done)
    · refine⟨rfl,rfl,?_⟩;split at c
      all_goals first
       |(simp only[cond_eq_ite]at c;split at c<;>simp only[osI,reduceCtorEq]at c;subst c;rfl)
       |(unfold cmpI at c;split at c<;>simp only[osI,reduceCtorEq]at c<;>subst c<;>rfl)
    refine⟨rfl,rfl,?_⟩;unfold cmpI at c;split at c<;>simp only[osI,reduceCtorEq]at c<;>subst c<;>rfl;· refine⟨rfl,rfl,?_⟩;unfold strO at c;split at c;simp only[cond_eq_ite]at c;split at c<;>simp only[osI,reduceCtorEq]at c;subst c;rfl;all_goals (simp only[osI,reduceCtorEq]at c<;>subst c<;>rfl)
   obtain⟨z,s,f⟩:=m;rw[cY z i,cY s g];exact⟨u,ub c,bI f σ⟩
 cases d:(flat a&&flat b)with
 |true=>rw[d]at h;simp only[C']at h;simp only[f']at d;split at h;rename_i u e;cases f:flat u;rw[f]at h;simp at h;rw[f]at h;simp only[C',osI]at h;subst h;rw[cY d.1 i,cY d.2 g];exact⟨u,jh e w,bI f σ⟩;cases h
 |false=>rw[d]at h;simp only[HJ]at h;cases l:vF E t a b;rw[l]at h;simp only[HJ]at h;cases e:sameP E t a b;rw[e]at h;simp at h;rw[e]at h;simp only[C']at h;obtain⟨q,p⟩:=yA n i g e x y w;split at h;simp only[osI]at h;subst h;exact⟨_,q,.bool _⟩;simp only[osI]at h;subst h;exact⟨_,p,.bool _⟩;cases h;rw[l]at h;simp only[C']at h;have o:=zm n i g l x y w;split at h;simp only[osI]at h;subst h;exact⟨_,o.1,.bool _⟩;simp only[osI]at h;subst h;exact⟨_,o.2,.bool _⟩;cases h
theorem kE(a b:ByteArray):(a==b)=eqL a.data.toList b.data.toList:=by rw[Ir,eH];constructor;intro h;cases a;cases b;have:(_:Array UInt8)==_:=h;simpa using this;intro h;have:a=b:=IS h;subst this;cases a;show((_:Array UInt8)==_)=true;simp
def dp(a b:IntKind):Bool:=decide (a=b)
theorem fZ(a b:Int):(a==b)=decide (a=b):=by rw[Ir];simp
def eqV(E:Env)(t:TypeId)(a b:Value):Option Bool:=
 match a,b,und E t with
 | .int k x,.int k' y,some (.int _)=>bif dp k k' then some (decide (x=y))else none
 | .string x,.string y,some .string=>some (eqL x.data.toList y.data.toList)
 | .bool x,.bool y,some .bool=>some (x==y)
 |_,_,_=>none
def eqFs(E:Env)(xs ys:Lh):List Field->Option Bool
 | []=>some true
 | f::fs=>bif f.name== "_" then eqFs E xs ys fs else(match n7 E f.type xs f.offset,n7 E f.type ys f.offset with
   |some a,some b=>(match eqV E f.type a b,eqFs E xs ys fs with|some p,some q=>some (p&&q)|_,_=>none)
   |_,_=>none)
def Gc(E:Env)(op:BinOp)(t:TypeId)(xs ys:Lh):Lj:=
 match und E t with
 | some (.struct fs)=>bif E.P.stoodInHeld t then none else(match eqFs E xs ys fs.toList with
   |some b=>(match op with| .eql=>some (.bool b)| .neq=>some (.bool (!b))|_=>none)
   |none=>none)
 |_=>none
theorem xh(f:E.Ok){a:Value}(j:VR σ a a')(i:VR σ b b')(h:eqV E t a b=some r)(d:Nat)(w:World):
 (Op.equalIn (d+1) t a' b').run E.P w=.ok r w/\(Op.eqGuardIn (d+1) t a' b').run E.P w=.ok false w:=by
 unfold eqV at h;split at h;rename_i k x l y m c;cases j;cases i;cases g:dp k l;rw[g]at h;cases h;rw[g]at h;simp only[C',osI]at h;have e:k=l:=by simpa[dp]using g
 subst e;subst h;refine⟨?_,?_⟩;rw[run_equalIn_int w d t k m x y (cd f c),fZ];simp[Op.eqGuardIn,aj f c];rename_i x y c;cases j;cases i;cases h;refine⟨?_,?_⟩;rw[run_equalIn_string w d t x y (cd f c),<-beq_toListBytes,kE];simp[Op.eqGuardIn,aj f c];rename_i x y c;cases j;cases i;cases h;refine⟨?_,?_⟩;rw[run_equalIn_bool' w d t x y (cd f c)];simp[Op.eqGuardIn,aj f c];cases h
theorem mY{E:Env}(g:E.Ok){σ:Sig}{o n e c:Lh}(l:VRs σ o e)(j:VRs σ n c)(d:Nat)(w:World):∀ {fs:List Field}{r:Bool},eqFs E o n fs=some r->
 (Op.eqFields (d+1) ⟨e⟩ ⟨c⟩ fs).run E.P w=.ok r w
 | [],r,h=>by simp only[eqFs,osI]at h;subst h;simp[Op.eqFields]
 | f::fs,r,h=>by
  simp only[eqFs]at h;by_cases i:f.name= "_";simp only[i,beq_self_eq_true,C']at h;simp only[Op.eqFields,i,ne_eq,not_true_eq_false,I2];exact mY g l j d w h;have C:(f.name== "_")=false:=by simpa using i
  rw[C]at h;simp only[HJ]at h;split at h;rename_i a b D m;split at h;rename_i p q B z;cases h;obtain⟨a',H,v1⟩:=fi g l D w;obtain⟨b',G,s⟩:=fi g j m w;obtain⟨F,_⟩:=xh g v1 s B d w;have u:=mY g l j d w z;simp only[Op.eqFields,ne_eq,i,not_false_eq_true,Jt,HB,H,G,F,Hv];cases p with
  |true=>simpa using u
  |false=>simp
  cases h;cases h
theorem Ga(g:E.Ok){m j e c:Lh}(z:VRs σ m e)(u:VRs σ j c)(d:Nat)(w:World){fs:Array Field}(n:und E t=some (.struct fs))(h:eqFs E m j fs.toList=some r):
 (Op.eqGuardIn (d+1+1) t (.agg ⟨e⟩) (.agg ⟨c⟩)).run E.P w=.ok false w:=by
 rw[Op.eqGuardIn];simp only[HB,aj g n,Hv];rw[<-Array.forIn_toList];generalize fs.toList=l at h;clear n;induction l generalizing r with
 |nil=>simp
 |cons f l F=>
 simp only[List.forIn_cons,HB,Sem.run_ite];simp only[eqFs]at h;by_cases o:f.name= "_";simp only[o,beq_self_eq_true,C']at h;simp_all;have C:(f.name== "_")=false:=by simpa using o
 rw[C]at h;simp only[HJ]at h;split at h;rename_i a b D i;split at h;rename_i p q B G;obtain⟨a',J,v1⟩:=fi g z D w;obtain⟨b',I,s⟩:=fi g u i w;obtain⟨_,H⟩:=xh g v1 s B d w;simp_all;cases h;cases h
theorem z1(f:E.Ok){j i c a:Lh}(m:VRs σ j c)(l:VRs σ i a){d:BinOp}{x:Operand}(h:Gc E d t j i=some v):
 (do eqGuard d t x y (.agg ⟨c⟩) (.agg ⟨a⟩);binOp d t (.agg ⟨c⟩) (.agg ⟨a⟩)).run E.P w=.ok v w/\scal v=true:=by
 unfold Gc at h;split at h;rename_i u g;cases e:E.P.stoodInHeld t with
 |true=>rw[e]at h;cases h
 | false=>
  rw[e]at h;simp only[HJ]at h;split at h;rename_i b s;have p:E.P.fieldsOf t=u:=by simp[Program.fieldsOf,cd f g]
  have q:(Op.equalIn 10000 t (.agg ⟨c⟩) (.agg ⟨a⟩)).run E.P w=.ok b w:=by rw[show(10000:Nat)=9998+1+1 from rfl,run_equalIn_struct w (9998+1) t _ _ (by rw[p];exact cd f g) e,p];exact mY f m l 9998 w s
  have o:∀ d,(eqGuard d t x y (.agg ⟨c⟩) (.agg ⟨a⟩)).run E.P w=.ok () w:=λd=>by cases n:E.P.eqGuardType E.P.depth t;exact run_eqGuard_agg w d t x y _ _ n;have:=Ga f m l 9998 w g s;cases d<;>simp[eqGuard,run_program,n,Op.maxDepth,this]
  split at h;cases h;exact⟨by rw[HB,o,Hv,run_eql_struct,q];rfl,rfl⟩;cases h;exact⟨by rw[HB,o,Hv,run_neq_struct,q];rfl,rfl⟩;cases h;cases h
 cases h
def eqIs(E:Env)(e:TypeId)(sz:Nat)(xs ys:Lh):Lg->Option Bool
 | []=>some true
 | j::js=>(match n7 E e xs (j*sz),n7 E e ys (j*sz)with
   |some a,some b=>(match eqV E e a b,eqIs E e sz xs ys js with|some p,some q=>some (p&&q)|_,_=>none)
   |_,_=>none)
theorem xj{E:Env}(g:E.Ok){σ:Sig}{n m f c:Lh}(s:VRs σ n f)(o:VRs σ m c)(d:Nat)(w:World){e:TypeId}{sz:Nat}:∀ {i:Lg}{r:Bool},eqIs E e sz n m i=some r->
 (Op.eqItems (d+1) e sz ⟨f⟩ ⟨c⟩ i).run E.P w=.ok r w
 | [],r,h=>by simp only[eqIs,osI]at h;subst h;simp[Op.eqItems]
 | j::i,r,h=>by
  simp only[eqIs]at h;split at h;rename_i a b D l;split at h;rename_i p q C B;cases h;obtain⟨a',H,v1⟩:=fi g s D w;obtain⟨b',G,u⟩:=fi g o l w;obtain⟨F,_⟩:=xh g v1 u C d w;have z:=xj g s o d w B;simp only[Op.eqItems,HB,H,G,F,Hv];cases p with
  |true=>simpa using z
  |false=>simp
  cases h;cases h
def eqK(E:Env)(kt:TypeId)(k key:Value):Option Bool:=
 match k,key with
 | .agg ⟨xs⟩,.agg ⟨ys⟩=>bif xs.all scal&&ys.all scal then(match und E kt with
   |some (.struct fs)=>bif E.P.stoodInHeld kt then none else eqFs E xs ys fs.toList
   |some (.array n e)=>(match E.ti e with|some ie=>eqIs E e ie.size xs ys (List.range n)|none=>none)
   |_=>none)else none
 |_,_=>none
theorem F9(a:E.Ok){key:Value}{b:Bool}(h:eqK E kt k key=some b)(w:World):(Op.equal kt k key).run E.P w=.ok b w:=by
 unfold eqK at h;split at h;rename_i l j;cases d:(l.all scal&&j.all scal);rw[d]at h;cases h;rw[d]at h;simp only[C']at h;simp only[f']at d;have σ:Sig:=⟨λ_=>none,λ_=>none,λ_=>False⟩;have o:=bt d.1 σ;have m:=bt d.2 σ;split at h;rename_i s g;cases c:E.P.stoodInHeld kt with
 |true=>rw[c]at h;cases h
 | false=>
  rw[c]at h;simp only[HJ]at h;have p:E.P.fieldsOf kt=s:=by simp[Program.fieldsOf,cd a g]
  show(Op.equalIn 10000 kt _ _).run E.P w=_;rw[show(10000:Nat)=9998+1+1 from rfl,run_equalIn_struct w (9998+1) kt _ _ (by rw[p];exact cd a g) c,p];exact mY a o m 9998 w h
 rename_i n e g;split at h;rename_i q f;show(Op.equalIn 10000 kt _ _).run E.P w=_;have i:E.P.cellsOf e=q.size:=by simp[Program.cellsOf,a.ti _ _ f]
 rw[show(10000:Nat)=9998+1+1 from rfl,run_equalIn_array w (9998+1) ⟨l⟩ ⟨j⟩ (cd a g) (a.ti _ _ f),i];exact xj a o m 9998 w h;cases h;cases h;cases h
abbrev _root_.Go.Ju:=@List.cons.injEq
abbrev _root_.Go.J4:=@Go.run_bytesToString
def jS(kind:TypeDesc)(a b:Value):Option Bool:=
 match kind,a,b with
 | .int _,.int k x,.int k' y=>if k=k' then some (decide (x=y))else none
 | .string,.string x,.string y=>some (eqL x.data.toList y.data.toList)
 | .bool,.bool x,.bool y=>some (x==y)
 |_,_,_=>none
theorem C3(kind:TypeDesc)(a b:Value):Instr.sameNow kind a b=jS kind a b:=by unfold Instr.sameNow jS;split;grind;simp only[kE];all_goals grind
def eU(kind:TypeDesc)(k:Value):Lc->Nat->Option (Option (Nat×Value))
 | [],_=>some none
 | (key,v,_)::es,i=>
   match jS kind k key with
   |some true=>some (some (i,v))
   |some false=>eU kind k es (i+1)
   |none=>none
theorem r9{σ:Sig}{kind:TypeDesc}{k:Value}:∀ {es:Lc}{a:List MapEntry}{i:Nat},ERs σ es a->
 (eU kind k es i=none->Instr.findNow kind k a i=none)/\(eU kind k es i=some none->Instr.findNow kind k a i=some none)/\
 (∀j v,eU kind k es i=some (some (j,v))->∃ v',Instr.findNow kind k a i=some (some (j,v'))/\VR σ v v')
 |_,_,i,.nil=>by simp[eU,Instr.findNow]
 | _,_,i,.cons (x:=x) (e:=e) h t=>by
  obtain⟨c,v,f⟩:=x;obtain⟨d,l,g⟩:=h;simp only at d l g;simp only[eU,Instr.findNow,C3,d];cases m:jS kind k c with
  |none=>simp
  |some b=>
  cases b with
  |true=>grind
  |false=>exact r9 t
def oD(E:Env)(kt:TypeId)(k key:Value):Option Bool:=
 match eqK E kt k key with
 |some b=>some b
 |none=>prun E.P (Op.equal kt k key)
theorem xi(a:E.Ok){key:Value}{b:Bool}(h:oD E kt k key=some b)(w:World):(Op.equal kt k key).run E.P w=.ok b w:=by grind [oD,osI,F9,jh]
def cZ(E:Env)(kt:TypeId)(k:Value):Lc->Nat->Option (Option (Nat×Value))
 | [],_=>some none
 | (key,v,_)::es,i=>
   match oD E kt k key with
   |some true=>some (some (i,v))
   |some false=>cZ E kt k es (i+1)
   |none=>none
theorem sa{E:Env}(d:E.Ok){σ:Sig}{kt:TypeId}{k:Value}{w:World}:∀ {es:Lc}{a:List MapEntry}{i:Nat},ERs σ es a->
 (cZ E kt k es i=some none->(Instr.findAsking kt k a i).run E.P w=.ok none w)/\
 (∀j v,cZ E kt k es i=some (some (j,v))->∃ v',(Instr.findAsking kt k a i).run E.P w=.ok (some (j,v')) w/\VR σ v v')
 |_,_,i,.nil=>by simp[cZ,Instr.findAsking]
 | _,_,i,.cons (x:=x) (e:=e) h t=>by
  obtain⟨c,v,g⟩:=x;obtain⟨f,n,m⟩:=h;simp only at f n m;simp only[cZ,Instr.findAsking,f,HB];cases l:oD E kt k c with
  |none=>simp
  |some b=>
  rw[xi d l w];simp only[Hv];cases b with
  |true=>simp_all
  |false=>simp only[IR,I2];exact sa d t
def iH(E:Env)(kt:TypeId)(k:Value)(es:Lc):Option (Option (Nat×Value)):=
 match und E kt with
 | some kind=>(match eU kind k es 0 with
   |some r=>some r
   |none=>cZ E kt k es 0)
 |none=>none
theorem qa(d:E.Ok){es:Lc}{c:List MapEntry}(g:ERs σ es c)(w:World):
 (iH E kt k es=some none->(Instr.findKey kt k c).run E.P w=.ok none w)/\
 (∀j v,iH E kt k es=some (some (j,v))->∃ v',(Instr.findKey kt k c).run E.P w=.ok (some (j,v')) w/\VR σ v v'):=by
 unfold iH;cases e:und E kt with
 |none=>simp
 |some a=>
 simp only;obtain⟨m,l,h⟩:=r9 (kind:=a) (k:=k) (i:=0) g;obtain⟨q,p⟩:=sa d (kt:=kt) (k:=k) (w:=w) (i:=0) g;cases f:eU a k es 0 with
 |none=>simp only[Instr.findKey,HB,aj d e,Hv,m f];exact⟨q,p⟩
 |some r=>
 cases r with
 |none=>simp only[Instr.findKey,HB,aj d e,Hv,l f];simp
 |some n=>obtain⟨j,v⟩:=n;obtain⟨v',o,s⟩:=h j v f;simp only[Instr.findKey,HB,aj d e,Hv,o];simp_all
def gN(E:Env)(emp:Bool)(kt:TypeId)(k:Value):Bool:=
 match und E kt with
 |some (.int _)|some .string|some .bool=>true
 |_=>(prun E.P (Instr.checkKey emp 10000 kt k)).isSome
theorem li(d:E.Ok){a:Bool}(h:gN E a kt k=true)(w:World):(Instr.checkKey a 10000 kt k).run E.P w=.ok () w:=by
 unfold gN at h;split at h
 all_goals first
  | (rename_i e
     rw[show(10000:Nat)=9999+1 from rfl]
     unfold Instr.checkKey
     rw[HB,aj d e,Hv]
     rfl)
  | (cases c:prun E.P (Instr.checkKey a 10000 kt k)with
     |none=>rw[c]at h;simp at h
     |some u=>exact jh c w)
def gq (E :Env)(A:AH)(t:TypeId)(m k:Value)(commaOk:Bool):Lj:=
 match und E t with
 | some (.map kt et)=>bif flat k then
   (match(match m with
    | .map none=>some []
    | .map (some B)=>(match A.t.get B with|some (.map es _)=>some es|_=>none)
    |_=>none:Option Lc)with
   | some es=>bif gN E es.isEmpty kt k then
     (match iH E kt k es with
     |some (some (_,v))=>some (bif commaOk then .tuple ⟨[v,.bool true]⟩else v)
     | some none=>(match E.ti et with
       | some i=>(match i.zero with
         |some z=>bif flat z then some (bif commaOk then .tuple ⟨[z,.bool false]⟩else z)else none
         |none=>none)
       |none=>none)
     |none=>none)else none
   |none=>none)else none
 |_=>none
theorem oe(R:Rel P σ A w){B:Nat}{es:Lc}{a:Nat}(h:A.t.get B=some (.map es a)):
 ∃b d c e,σ B=some (b,d,c)/\w.heap[b]? =some (.map e a)/\ERs σ es e.toList:=by obtain⟨b,d,c,i,e,g,f⟩:=R.obj B _ h rfl;exact⟨b,d,c,e,i,g,f⟩
theorem dL{b:Nat}{o:Obj}(h:w.heap[b]? =some o)(a:∀ c e f,o≠ .cells c e f):(getObj b).run P w=.ok o w:=by unfold getObj;cases o<;>first|exact absurd rfl (a _ _ _)|simp[Sem.run,h]
theorem ERs.isEmpty{l:Lc}{l':List MapEntry}(h:ERs σ l l'):l'.isEmpty=l.isEmpty:=by cases h<;>rfl
theorem ERs.length:∀ {l:Lc}{l':List MapEntry},ERs σ l l'->l'.length=l.length
 |_,_,.nil=>rfl
 |_,_,.cons _ t=>by simp[t.length]
def zy(kt et:TypeId)(k:Value)(cok:Bool)(es:Array MapEntry):Sem Value:=do
 Instr.checkKey es.isEmpty 10000 kt k
 let (v,ok) <-match <-Instr.findKey kt k es.toList with
  |some (_,v)=>pure (v,true)
  |none=>pure (<-zeroValue et,false)
 pure (if cok then .tuple #[v,.bool ok]else v)
theorem vO(p:E.Ok)(R:Rel E.P σ A w){m C o:Value}{f:Bool}(I:VR σ m C)(N:VR σ k o)(h:gq E A t m k f=some v):
 ∃v',(Instr.lookup t C o f).run E.P w=.ok v' w/\VR σ v v':=by
 unfold gq at h;split at h;rename_i kt et H;cases n:flat k;rw[n]at h;simp at h;rw[n]at h;simp only[C']at h;obtain rfl:=cY n N;split at h;rename_i G a;cases l:gN E G.isEmpty kt o;rw[l]at h;simp at h;rw[l]at h;simp only[C']at h;have s:∃ e:Array MapEntry,ERs σ G e.toList/\(Instr.lookup t C o f).run E.P w=(zy kt et o f e).run E.P w:=by
  split at a;cases a;cases I;exact⟨#[],.nil,by simp[Instr.lookup,zy,aj p H];rfl⟩;rename_i B;split at a;rename_i a0 cl Q;cases a;obtain⟨b,d,c,e,K,V,U⟩:=oe R Q;cases I with
  |map D=>rw[D]at K;cases K;refine⟨e,U,?_⟩;simp[Instr.lookup,zy,aj p H,dL V (by simp)];rfl
  cases a;cases a
 obtain⟨e,J,S⟩:=s;have q:e.isEmpty=G.isEmpty:=by rw[<-J.isEmpty];grind
 obtain⟨Z,Y⟩:=qa p J (kt:=kt) (k:=o) w;rw[S];unfold zy;simp only[HB,q,li p l,Hv];split at h;rename_i j u F;cases h;obtain⟨u',X,L⟩:=Y j u F;rw[X];simp only[Hv,Ih];refine⟨_,rfl,?_⟩;cases f;exact L;exact .tuple (.cons L (.cons (.bool _) .nil));rename_i F;rw[Z F];simp only[Hv,HB];split at h;rename_i i O;split at h;rename_i z M;cases g:flat z;rw[g]at h;simp at h;rw[g]at h;simp only[C',osI]at h;subst h;rw[fK p O M];simp only[Hv,Ih];refine⟨_,rfl,?_⟩;cases f;exact bI g σ;exact .tuple (.cons (bI g σ) (.cons (.bool _) .nil));cases h;cases h;cases h;cases h;cases h
def lenA(E:Env)(A:AH)(t:TypeId)(x:Value):Lj:=
 match und E t with
 |some .string=>(match x with| .string s=>some (.int .i64 s.size)|_=>none)
 |some (.array n _)=>some (.int .i64 n)
 |some (.slice _)=>(match x with| .slice _ n _=>some (.int .i64 n)|_=>none)
 | some (.map _ _)=>(match x with
   | .map none=>some (.int .i64 0)
   | .map (some B)=>(match A.t.get B with|some (.map es _)=>some (.int .i64 es.length)|_=>none)
   |_=>none)
 |some (.pointer e)=>(match und E e with|some (.array n _)=>some (.int .i64 n)|_=>none)
 |_=>none
theorem len_ok(f:E.Ok)(R:Rel E.P σ A w){ty:TypeId}(g:VR σ x x')(h:lenA E A t x=some v){ts:Array TypeId}(o:ts[0]? =some t){as:Array Value}(u:as[0]? =some x'):
 (Builtin.len_ ts ty as).run E.P w=.ok v w/\flat v=true:=by
 unfold lenA at h
 have F:Builtin.len_ ts ty as=(do
  match <-underlying t,x' with
  | .string,.string s=>pure (goInt s.size)
  | .array n _,_=>pure (goInt n)
  | .pointer arr,_=>
    let .array n _ <-underlying arr|stuck "len: pointer to array expected"
    pure (goInt n)
  | .slice _,.slice _ n _=>pure (goInt n)
  | .map _ _,.map none| .chan _ _,.chan none=>pure (goInt 0)
  | .map _ _,.map (some r)=>
    let .map entries _ <-getObj r|stuck "len: map expected"
    pure (goInt entries.size)
  | .chan _ _,.chan (some r)=>
    let .chan _ buf _ _ _ timer <-getObj r|stuck "len: channel expected"
    pure (goInt (if timer then 0 else buf.size))
  |_,_=>stuck "len: string, array, pointer to array, slice, map or channel expected"):=by
  unfold Builtin.len_
  rw[o,u]
  rfl
 rw[F];split at h;rename_i a;split at h;cases g;cases h;exact⟨by simp[aj f a,goInt],rfl⟩;cases h;rename_i n e a;cases h;exact⟨by simp[aj f a,goInt],rfl⟩;rename_i e a;split at h;cases h;cases g<;>exact⟨by simp[aj f a,goInt],rfl⟩;cases h;rename_i kt G a;split at h;cases g;cases h;exact⟨by simp[aj f a,goInt],rfl⟩;rename_i B;split at h;rename_i D I q;cases h;obtain⟨b,d,c,l,m,C,z⟩:=oe R q;cases g with
 | map i=>
  rw[i]at m;cases m;have p:l.size=D.length:=by have:=z.length;simpa using this
  exact⟨by simp[aj f a,goInt,dL C (by simp),p],rfl⟩
 cases h;cases h;rename_i e a;split at h;rename_i n H j;cases h;refine⟨?_,rfl⟩;cases g<;>simp[aj f a,aj f j,goInt];cases h;cases h
def kG:Lh->Option (List UInt8)
 | []=>some []
 | .int .u8 n::l=>(match kG l with|some r=>some (UInt8.ofNat n.toNat::r)|none=>none)
 |_=>none
theorem sN{σ:Sig}:∀ {l l':Lh}{r:List UInt8},VRs σ l l'->kG l=some r->∃ ns:Le,l'=ns.map (Value.int .u8)/\r=ns.map λn=>UInt8.ofNat n.toNat
 |_,_,r,.nil,h=>by simp[kG]at h;subst h;exact⟨[],rfl,rfl⟩
 |_,_,r,.cons (v:=v) hv t,h=>by unfold kG at h;split at h;rename_i e;cases e;rename_i n l e;simp only[Ju]at e;obtain⟨rfl,rfl⟩:=e;cases hv;split at h;rename_i c a;cases h;obtain⟨ns,rfl,rfl⟩:=sN t a;exact⟨n::ns,rfl,rfl⟩;cases h;cases h
theorem iF:∀ (ns:Le) (s:ByteArray),ns.foldl (λr n=>r.push (UInt8.ofNat n.toNat)) s=av (s.data.toList++ns.map λn=>UInt8.ofNat n.toNat)
 | [],s=>by apply IS;simp[av]
 |n::ns,s=>by rw[JR,iF ns];simp_all
def Ad (E :Env)(A:AH)(src dst:TypeId)(x:Value):Lj:=
 match x with
 | .int _ n=>(match und E src,und E dst with
   | some _,some (.int k)=>(match k with
     | .i64=>bif fR n then some (.int .i64 n)else some (.int .i64 (IntKind.i64.wrap n))
     |k=>some (.int k (k.wrap n)))
   |_,_=>(match prun E.P (convert src dst x)with|some v=>bif flat v then some v else none|none=>none))
 | .slice a n k=>(match und E src,und E dst with
   | some (.slice e),some .string=>(match und E e with
     | some (.int .u8)=>(match a with
       |none=>some (.string (av []))
       | some ⟨B,o,none⟩=>bif Nat.beq n 0 then some (.string (av []))else(match gr A B o n with
         |some l=>(match kG l with|some r=>some (.string (av r))|none=>none)
         |none=>none)
       |_=>none)
     |_=>none)
   |_,_=>none)
 | .pointer (some ⟨B,o,none⟩)=>(match und E src,und E dst with
   | some (.pointer t),some .unsafePointer=>(match E.ti t,look A B with
     |some j,some c=>bif Nat.ble 1 j.size&&Nat.ble (o+1) c.length then some x else none
     |_,_=>none)
   | some .unsafePointer,some (.pointer u)=>(match E.ti u,A.t.get B with
     |some j,some (.cells c e)=>bif (Nat.beq e u&&Nat.beq o 0)&&(Nat.ble 1 j.size&&Nat.ble j.size c.length)then some x else none
     |_,_=>none)
   |_,_=>none)
 |x=>bif flat x then(match prun E.P (convert src dst x)with|some v=>bif flat v then some v else none|none=>none)else none
theorem pG{e:TypeId}(d:P.cellsOf e≠0)(a n:Nat)(c:n<=a):liesAt P P.depth e a 0 e n=true:=by have hd:P.depth=(2*(P.types.size+Made.depth)+1)+1:=rfl;rw[hd];simp only[liesAt,Iu];left;rw[hd];simp[rowAt,d,c,sameLayout]
theorem fh{s:Sem Value}(h:(match prun E.P s with|some v=>bif flat v then some v else none|none=>none)=some v)(w:World):s.run E.P w=.ok v w/\VR σ v v:=by split at h;rename_i u c;cases a:flat u;rw[a]at h;simp at h;rw[a]at h;simp only[C',osI]at h;grind [jh,bI];cases h
theorem Gz(i:E.Ok)(R:Rel E.P σ A w){z G:TypeId}(H:VR σ x x')(h:Ad E A z G x=some v):
 ∃v',(convert z G x').run E.P w=.ok v' w/\VR σ v v':=by
 unfold Ad at h;split at h;rename_i k0 n;cases H;split at h;rename_i ds k s hd;have I:(convert z G (.int k0 n)).run E.P w=.ok (.int k (k.wrap n)) w:=by simp[convert,aj i s,aj i hd,Conv.intToInt]
 split at h;cases F:fR n with
 |true=>rw[F]at h;simp only[C',osI]at h;subst h;rw[cO F]at I;exact⟨_,I,.int _ _⟩
 |false=>rw[F]at h;simp only[HJ,osI]at h;subst h;exact⟨_,I,.int _ _⟩
 cases h;exact⟨_,I,.int _ _⟩;obtain⟨S,Q⟩:=fh (σ:=σ) h w;exact⟨v,S,Q⟩;rename_i a n k;split at h;rename_i e s hd;split at h;rename_i O;split at h;cases h;cases H;refine⟨.string ByteArray.empty,?_,?_⟩;simp[convert,aj i s,aj i hd,aj i O,Conv.bytesToString];have:ByteArray.empty=av []:=by apply IS;rfl
 rw[this];exact .string _;rename_i B o;cases J:Nat.beq n 0 with
 | true=>
  rw[J]at h;simp only[C',osI]at h;subst h;obtain rfl:=Ho J;have D:∃ a' C,x'=.slice a' 0 C:=by cases H<;>exact⟨_,_,rfl⟩
  obtain⟨a',C,rfl⟩:=D;refine⟨.string ByteArray.empty,?_,?_⟩;cases a' with
  |none=>simp[convert,aj i s,aj i hd,aj i O,Conv.bytesToString]
  |some a'=>simp only[convert,HB,aj i s,aj i hd,Hv,aj i O];have:=J4 (P:=E.P) w a' 0 C [] (by simp[loadCells,loadCellsFrom]);simpa using this
  have:ByteArray.empty=av []:=by apply IS;rfl
  rw[this];exact .string _
 | false=>
  rw[J]at h;simp only[HJ]at h;have K:=aZ J;split at h;rename_i l L;split at h;rename_i r I;cases h;have D:∃ b d c C,σ B=some (b,d,c)/\x'=.slice (some ⟨b,d+o,none⟩) n C:=by
   cases H with
   |slice i' U V f hk=>exact⟨_,_,_,_,f,rfl⟩
   |sliceU U f J=>exact⟨_,_,_,_,f,rfl⟩
   |sliceV i' U V f J=>exact⟨_,_,_,_,f,rfl⟩
   |sliceE a a' V=>exact absurd rfl K
   |gs0=>exact absurd rfl K
   |gs lo o' U V m f hk hc ho hm=>exact⟨_,_,_,_,f,rfl⟩
  obtain⟨b,d,c,C,f,rfl⟩:=D;obtain⟨l',g1,g2⟩:=ld R L f;obtain⟨ns,rfl,rfl⟩:=sN g1 I;refine⟨_,?_,.string _⟩;simp only[convert,HB,aj i s,aj i hd,Hv,aj i O];rw[J4 (P:=E.P) w _ n C ns g2,iF];rfl;cases h;cases h
 cases h;cases h;cases h;rename_i B o;cases H with
 | ptr _ f=>
  rename_i b d k;split at h;rename_i t s hd;split at h;rename_i j c N L;simp only[cond_eq_ite,f',HA]at h;split at h;rename_i hc;cases h;obtain⟨b2,d2,k2,v',p,q,_⟩:=gL R L (Hr (show o<c.length by omega));rw[f]at p;cases p;refine⟨_,?_,.ptr o f⟩;unfold World.cell? at q;split at q;rename_i cs e fz hb;have X:d+o<cs.size:=by grind
  exact Lib.run_to_unsafe w ⟨b,d+o,none⟩ (cd i s) (cd i hd) (i.ti _ _ N) (by omega) (e:=e) (cells:=cs.size) (by simp[World.shape?,hb]) X;cases q;cases h;cases h;rename_i u s hd;split at h;rename_i j c e N L;simp only[cond_eq_ite,f',HA,Hy]at h;split at h;rename_i hc;cases h;obtain⟨⟨rfl,rfl⟩,S,Q⟩:=hc;obtain⟨b2,d2,k2,p,c',lo,hi,hb,_,a0,_,Z⟩:=R.obj B _ L rfl;rw[f]at p;cases p;subst Z;refine⟨_,?_,.ptr 0 f⟩;have a1:c.length<=c'.size:=by rcases Nat.eq_zero_or_pos c.length with h0|h0;omega;obtain⟨v',g,_⟩:=a0 (c.length-1) _ (Hr (show c.length-1<c.length by omega));grind
  have M:E.P.cellsOf e=j.size:=by simp[Program.cellsOf,i.ti _ _ N]
  refine Lib.run_from_unsafe w ⟨b,0+0,none⟩ (cd i s) (cd i hd) (i.ti _ _ N) (e:=e) (cells:=c'.size) (by simp[World.shape?,hb]) ?_;refine pG (by rw[M];omega) _ _ ?_;rw[M,Nat.le_div_iff_mul_le (by omega)];omega;cases h;cases h;cases h
 cases Y:flat x;rw[Y]at h;simp at h;rw[Y]at h;simp only[C']at h;obtain rfl:=cY Y H;obtain⟨S,Q⟩:=fh (σ:=σ) h w;exact⟨v,S,Q⟩
end
end Go.AM
