/- A part of the proof. -/
import Derived.Test.YtegefclhhjbfhaaGreatDoorA
import Derived.JoinedOf
import Derived.LaidByTextLater
import Derived.KernelRfl
import Derived.SevenTiedAt
import Derived.Lay
set_option linter.unusedVariables false
set_option linter.unusedSimpArgs false
namespace Go.FA
open Go.AM
noncomputable section
abbrev _root_.Go.Js:=@List.getElem?_range
abbrev _root_.Go.Is:=@List.filter_cons
variable {n:Nat}{P:Program}
theorem iH{c :Type}{l:List c}{g:Nat->Option c}(h:l.map some=(List.range n).map g):l.length=n/\∀ i,i<n->l[i]? =g i:=by
 have e:l.length=n:=by simpa using congrArg List.length h
 refine⟨e,λi f=>?_⟩;have b:=congrArg (·[i]?) h;simp only[List.getElem?_map,Js f,Option.map_some]at b;cases d:l[i]? with
 |none=>rw[d]at b;simp at b
 |some a=>rw[d]at b;simpa using b
theorem nv(a b:Nat):Nat.blt a b=decide (a<b):=by rw[HE];simp[Nat.blt,Nat.ble_eq];omega
def Et(P:Program)(n:Nat)(ti:T TypeInfo)(t:TypeId):Option TypeInfo:=bif Nat.blt t n then ti.get t else P.info? t
def EZ(n:Nat)(fn:T Func)(f:FuncId):Option Func:=bif Nat.blt f n then fn.get f else none
theorem Es{b:T TypeInfo}(h:P.types.toList.map some=(List.range n).map b.get):P.types.size=n/\P.info? =Et P n b:=by
 obtain⟨d,e⟩:=iH h;have c:P.types.size=n:=by rw[<-d];rfl
 refine⟨c,funext λt=>?_⟩;unfold Et;rw[nv];by_cases a:t<n;simp only[a,Ia,cond_true];unfold Tables.info?;rw[c,Gw a,<-e t a];simp;simp[a]
theorem EY{fn:T Func}(h:P.funcs.toList.map some=(List.range n).map fn.get):P.funcs.size=n/\∀ f:Nat,P.funcs[f]? =EZ n fn f:=by
 obtain⟨c,d⟩:=iH h;have b:P.funcs.size=n:=by rw[<-c];rfl
 refine⟨b,λf=>?_⟩;unfold EZ;rw[nv];by_cases a:f<n;simp only[a,Ia,cond_true];rw[<-d f a];simp;simp only[a,It,cond_false];exact Array.getElem?_eq_none (by omega)
theorem oE{P:Program}{L:List TypeId}(h:P.grow L=L):∀ d,P.grown d L=L
 |0=>rfl
 |d+1=>by show P.grown d (P.grow L)=L;rw[h];exact oE h d
theorem oF(P:Program):∀ a b c,P.grown (a+b) c=P.grown b (P.grown a c)
 |0,b,c=>by rw[Nat.zero_add];rfl
 |a+1,b,c=>by rw[Nat.succ_add];show P.grown (a+b) (P.grow c)=P.grown b (P.grown a (P.grow c));exact oF P a b _
theorem FY(b:P.types.size=n){t:TypeId}{L:List TypeId}(k:Nat)(a:Nat.ble k n=true)(d:P.grown k [t]=L)(c:P.grow L=L):P.book t=L:=by
 have a:k<=n:=by simpa using a
 unfold Program.book;rw[b];obtain⟨m,rfl⟩:=Nat.exists_eq_add_of_le a;rw[oF,d];exact oE c m
def pR{α :Type}(p: α ->Bool):List α ->Nat->Lg
 | [],_=>[]
 |x::l,i=>bif p x then i::pR p l (i+1)else pR p l (i+1)
theorem gV{a :Type}(p: a ->Bool)(L:List a):∀ (l:List a) (k:Nat),L.drop k=l->((List.range' k l.length).filter λi=>(L[i]?).any p)=pR p l k
 | [],k,_=>by simp[pR]
 | x::l,k,h=>by
  have b:L[k]? =some x:=by have:=congrArg (·[0]?) h;simpa[List.getElem?_drop]using this
  have c:L.drop (k+1)=l:=by have:=congrArg (List.drop 1) h;simpa[List.drop_drop,Nat.add_comm]using this
  simp only[List.length_cons,List.range'_succ,Is,b,Option.any_some,pR];rw[gV p L l (k+1) c];cases p x<;>simp
theorem oJ(P:Program)(a:String):P.funcNamed a=match pR (λfn:Func=>fn.name==a) P.funcs.toList 0 with| [i]=>some i|_=>none:=by unfold Program.funcNamed;have h:=gV (λfn:Func=>fn.name==a) P.funcs.toList P.funcs.toList 0 rfl;have b:P.funcs.size=P.funcs.toList.length:=rfl;rw[b,List.range_eq_range',<-h];simp only[Array.getElem?_toList];rfl
theorem iY{a:String}{i:FuncId}(h:pR (λfn:Func=>fn.name==a) P.funcs.toList 0=[i]):P.funcNamed a=some i:=by rw[oJ,h]
def cloF(adj:T (List FuncId))(n:Nat):List FuncId->T Unit->List FuncId->Option (List FuncId):=
 Nat.rec (motive:=λ_=>List FuncId->T Unit->List FuncId->Option (List FuncId)) (λ_ _ _=>none)
  (fun _ ih todo s seen=>match todo with
   | []=>some seen.reverse
   | f ::todo=>match s.get f with
     |some _=>ih todo s seen
     | none=>match T.set 32 s f ()with
       |none=>none
       |some s'=>ih ((adj.get f).getD []++todo) s' (f::seen)) n
theorem cloF_ok{P:Program}{adj:T (List FuncId)}(g:∀ f:Nat,(P.funcs[f]?).elim [] P.leadsTo=(adj.get f).getD []){L:List FuncId}:∀ (n:Nat) (b:List FuncId) (s:T Unit) (a:List FuncId),(∀x,a.contains x=(s.get x).isSome)->
 cloF adj n b s a=some L->∀ m,n<=m->P.closureVia m b a=L
 |0,b,s,a,hs,h,m,hm=>by cases h
 |n+1,[],s,a,hs,h,m,hm=>by have h:some a.reverse=some L:=h;cases h;cases m<;>(unfold Program.closureVia;rfl)
 | n +1,f::b,s,a,hs,h,m,hm=>by
  obtain⟨k,rfl⟩:∃ k,m=k+1:=⟨m-1,by omega⟩
  have h:(match s.get f with
   |some _=>cloF adj n b s a
   | none=>match T.set 32 s f ()with
     |none=>none
     |some c=>cloF adj n ((adj.get f).getD []++b) c (f::a))=some L:=h
  unfold Program.closureVia;rw[hs f];cases i:s.get f with
  |some u=>rw[i]at h;simp only[Option.isSome_some,Ie];exact cloF_ok g n b s a hs h k (by omega)
  |none=>
  rw[i]at h;simp only[Option.isSome_none,Bool.false_eq_true,HV];cases d:T.set 32 s f ()with
  |none=>simp[d]at h
  |some c=>simp only[d]at h;rw[g f];refine cloF_ok g n _ c (f::a) (λx=>?_) h k (by omega);rw[T.get_set d x,List.contains_cons];by_cases e:x=f;simp[e];rw[D' e,hs x];simp[e]
theorem tV{A:List (List FuncId)}{adj:T (List FuncId)}{f:FuncId}{L:List FuncId}(n N:Nat)
 (h:P.funcs.toList.map P.leadsTo=A) (d:A.map some=(List.range N).map adj.get) (a:∀ i,N<=i->adj.get i=none)
 (j:Nat.ble n (1+(A.map λl=>l.length+1).sum)=true) (k:cloF adj n [f] .leaf []=some L):P.closure f=L:=by
 obtain⟨b,c⟩:=iH d;unfold Program.closure;refine cloF_ok (adj:=adj) (λg=>?_) n [f] .leaf [] (λx=>by simp[T.get_leaf]) k _ ?_;by_cases e:g<N;rw[<-c g e,<-h];simp only[List.getElem?_map,Array.getElem?_toList];cases P.funcs[g]?<;>rfl;rw[a g (Nat.le_of_not_lt e)];have:P.funcs.size<=g:=by
  have:P.funcs.size=N:=by rw[<-b,<-h];simp
  exact this▸Nat.le_of_not_lt e
 rw[Array.getElem?_eq_none this];rfl;have:(P.funcs.toList.map λg=>(P.leadsTo g).length+1)=A.map λl=>l.length+1:=by rw[<-h,List.map_map];rfl
 rw[this];simpa using j
def okAt{α :Type}(v:Option α)(b n:Nat):Bool:=match v with|none=>true|some _=>Nat.blt b n
def T.below{α :Type}(t:T α):Nat->Nat->Nat->Bool:=T.rec (motive:=λ_=>Nat->Nat->Nat->Bool) (λ_ _ _=>true)
 (λ_ v _ ihl ihr a b n=>okAt v b n&&(ihl (2*a) (a+b) n&&ihr (2*a) (2*a+b) n)) (λ_ _ _ _=>false) t
theorem nw{f :Type}:∀ (t:T f) (a b n:Nat),T.below t a b n=true->∀ i,n<=a*i+b->t.get i=none
 | .leaf,a,b,n,_,i,_=>T.get_leaf i
 | .fn _,a,b,n,h,i,_=>by cases h
 | .node l v r,a,b,n,h,i,hi=>by
  have h:(okAt v b n&&(T.below l (2*a) (a+b) n&&T.below r (2*a) (2*a+b) n))=true:=h;simp only[f']at h;rw[T.get_node];by_cases d:i=0;subst d;rw[Gw rfl];cases v with
  |none=>rfl
  |some x=>have:=h.1;simp only[okAt,nv,decide_eq_true_eq]at this;omega
  rw[D' d];by_cases c:i%2=1;rw[Gw c];refine nw l (2*a) (a+b) n h.2.1 _ ?_;have e:i=2*(i/2)+1:=by omega
  have:a*i=2*a*(i/2)+a:=by
   calc a*i=a*(2*(i/2)+1):=by rw[<-e]
    _=2*a*(i/2)+a:=by rw[Nat.mul_add,Nat.mul_one,<-Nat.mul_assoc,Nat.mul_comm a 2]
  omega;rw[D' c];refine nw r (2*a) (2*a+b) n h.2.2 _ ?_;have e:i=2*(i/2-1)+2:=by omega
  have:a*i=2*a*(i/2-1)+2*a:=by
   calc a*i=a*(2*(i/2-1)+2):=by rw[<-e]
    _=2*a*(i/2-1)+2*a:=by rw[Nat.mul_add,<-Nat.mul_assoc,Nat.mul_comm a 2]
  omega
theorem out_of{a :Type}{t:T a}(h:T.below t 1 0 n=true)(i:Nat)(b:n<=i):t.get i=none:=nw t 1 0 n h i (by omega)
theorem pz{f:FuncId}(h:P.unfollowed f=true):P.recurses f=true:=by unfold Program.recurses;rw[h];rfl
abbrev _root_.Go.Jm:=@Array.any_toList
abbrev _root_.Go.IJ:=@List.any_eq_false
theorem EU{f:FuncId}{b:String}(d:P.funcNamed b=some f)(h:(P.funcs.toList.all λfn=> !fn.goes)=true):P.goesAt .entering b=false:=by
 have a:∀ fn∈P.funcs.toList,fn.goes=false:=λfn c=>by simpa using List.all_eq_true.1 h fn c
 unfold Program.goesAt Program.goesFrom;rw[d];simp only[Option.any_some,Bool.or_false];unfold Program.goes;have j:P.funcs.any Func.goes=false:=by rw[<-Jm,IJ];exact λfn c=>by simp[a fn c]
 have i:((P.closure f).any λg=>(P.funcs[g]?).any Func.goes)=false:=by
  rw[IJ];intro g _;cases e:P.funcs[g]? with
  |none=>simp
  |some fn=>simp[a fn (by rw[Array.mem_toList_iff];exact Array.mem_of_getElem? e)]
 rw[j,i];simp
def vE:List (Nat×Nat×List TypeId)->Nat->Option (List TypeId)
 | [],_=>none
 |x::l,t=>bif Nat.beq t x.1 then some x.2.2 else vE l t
def FZ(P:Program)(bl:List (Nat×Nat×List TypeId))(t:TypeId):List TypeId:=match vE bl t with|some L=>L|none=>P.book t
theorem oz:∀ {a:List (Nat×Nat×List TypeId)}{t:Nat}{L:List TypeId},vE a t=some L->∃ k,(t,k,L)∈a
 | x::l,t,L,h=>by
  simp only[vE]at h;cases e:Nat.beq t x.1 with
  |true=>rw[e]at h;simp only[cond_true,osI]at h;obtain rfl:=Nat.eq_of_beq_eq_true e;exact⟨x.2.1,by simp[<-h]⟩
  |false=>rw[e]at h;obtain⟨k,b⟩:=oz h;exact⟨k,List.mem_cons_of_mem _ b⟩
theorem z6(b:P.types.size=n)(a:List (Nat×Nat×List TypeId))
 (h:(a.all λx=>Nat.ble x.2.1 n&&((P.grown x.2.1 [x.1]==x.2.2)&&(P.grow x.2.2==x.2.2)))=true):P.book=FZ P a:=by
 funext t;unfold FZ;cases c:vE a t with
 |none=>rfl
 |some L=>obtain⟨k,d⟩:=oz c;have:=List.all_eq_true.1 h _ d;simp only[f',beq_iff_eq]at this;exact FY b k this.1 this.2.1 this.2.2
def wx(g:List TypeId->List TypeId):Nat->List TypeId->List TypeId
 |0,s=>s
 |d+1,s=>wx g d (g s)
theorem wu(P:Program):P.grown=wx P.grow:=by
 funext d;induction d with
 |zero=>funext s;rfl
 |succ d a=>funext s;show P.grown d (P.grow s)=wx P.grow d (P.grow s);rw[a]
abbrev _root_.Go.HX:=@decide_eq_true
def uD:List MemPlace->T Unit->Bool
 | [],_=>true
 | .map _::_,_=>false
 | .cell b off::l,s=>bif Nat.blt off 65536 then(match s.get (b*65536+off)with
  |some _=>false
  | none=>match T.set 64 s (b*65536+off) ()with
    |some s'=>uD l s'
    |none=>false)else false
theorem qL:∀ (l:List MemPlace) (s:T Unit),uD l s=true->l.Nodup/\∀ b off,MemPlace.cell b off∈l->off<65536/\s.get (b*65536+off)=none
 | [],s,_=>⟨.nil,λb off h=>by simp at h⟩
 | .map _::l,s,h=>by simp[uD]at h
 | .cell b off::l,s,h=>by
  simp only[uD]at h;rw[nv]at h;by_cases f:off<65536;simp only[f,Ia,cond_true]at h;cases i:s.get (b*65536+off)with
  |some u=>simp[i]at h
  | none=>
   rw[i]at h;cases c:T.set 64 s (b*65536+off) ()with
   |none=>simp[c]at h
   |some k=>simp only[c]at h;obtain⟨m,j⟩:=qL l k h;refine⟨List.nodup_cons.2 ⟨λg=>?_,m⟩,λp a g=>?_⟩;have:=(j b off g).2;rw[T.get_set c]at this;simp at this;rcases List.mem_cons.1 g with e|e;cases e;exact⟨f,i⟩;obtain⟨o,d⟩:=j p a e;refine⟨o,?_⟩;rw[T.get_set c]at d;split at d;cases d;exact d
  simp[f]at h
theorem Di{a :Type}{o:Option a}{f g: a ->Bool}(b:o.map f=some true)(c:o.map g=some true):o.map (λx=>f x&&g x)=some true:=by
 cases o with
 |none=>cases b
 |some x=>simp_all
theorem vA{o:Option (List (String×DataW Unit)×List MemPlace)}(h:o.map (λx=>uD x.2 .leaf)=some true):o.map (λx=>decide x.2.Nodup)=some true:=by
 cases o with
 |none=>cases h
 |some x=>simp only[Option.map_some,osI]at h ⊢;exact HX (qL x.2 .leaf h).1
end
end Go.FA
namespace Go.FA
open Go.AM
variable {n:Nat}{P:Program}{w w2:World}
theorem fT(P:Program):∀ (a b:List (String×DataW Unit)) (n:Nat),Lay.layList P n (a++b)=(Lay.layList P n a).bind λy=>(Lay.layList P (n+y.2.length) b).map λz=>(y.1++z.1,y.2++z.2)
 | [],b,n=>by
  rw[List.nil_append];have:Lay.layList P n []=some ([],[]):=by simp only[Lay.layList]
  rw[this];simp
 | x::a,b,n=>by
  rw[List.cons_append];simp only[Lay.layList];cases P.globalNamed x.1 with
  |none=>rfl
  |some g=>
  simp only;cases P.globals[g]? with
  |none=>rfl
  |some c=>
  simp only;cases DataW.lay P c.type n x.2 with
  |none=>rfl
  |some y=>
  simp only;rw[fT P a b];cases Lay.layList P (n+y.2.length) a with
  |none=>rfl
  |some z=>
  simp only[Option.bind_some,List.length_append,Nat.add_assoc];cases Lay.layList P (n+(y.2.length+z.2.length)) b with
  |none=>rfl
  |some u=>simp[List.append_assoc]
def layV(w:World)(o:Option (List (Nat×Lh)×List Obj)):World:=match o with
 |some y=>{w with heap:=⟨Lay.setRows w.heap.toList y.1++y.2⟩}
 |none=>w
theorem iB{os:Os}{laid:List (String×DataW Unit)}{Y:Option (List (Nat×Lh)×List Obj)}(a:(World.holding P os ⟨#[], #[],[]⟩).heap.size=n)(b:Lay.layList P n laid=Y):
 World.laidAll P os laid=layV (World.holding P os ⟨#[], #[],[]⟩) Y:=by subst a b;rfl
theorem tv{l:List (String×DataW Unit)}{Y:Option (List (Nat×Lh)×List Obj)}(a:w.heap.size=n)(b:Lay.layList P n l=Y)
 (h:(Y.any λy=>decide (y.1.map (·.1)).Nodup&&y.1.all λr=>Lay.isRow w.heap.toList[r.1]?)=true):w.layFits P l []=true:=by
 subst a;unfold World.layFits;rw[b];cases Y with
 |none=>simp at h
 |some y=>simpa using h
theorem oB{w':World}{l:List (String×DataW Unit)}{Y:Option (List (Nat×Lh)×List Obj)}(b:w.heap.size=n)(c:Lay.layList P n l=Y)(a:w'=w2)
 (h:(Y.any λy=>(y.1.all λr=>r.2.all (Lay.okV P w2))&&y.2.all (Lay.okO P w2))=true):w.layIfaces P l w'=true:=by
 subst b a;unfold World.layIfaces;rw[c];cases Y with
 |none=>simp at h
 |some y=>simpa using h
theorem zip_of{t:Tape}{i:Input}(a:w=w2)(h:(w2.forCall t i).variablesZipB P=true):(w.forCall t i).variablesZipB P=true:=by subst a;exact h
theorem CZ{t:Tape}{i:Input}{L:List Obj}{k m:Nat}(a:w=w2)(h:((w2.forCall t i).heap.toList.drop k).take m=L):((w.forCall t i).heap.toList.drop k).take m=L:=by subst a;exact h
end Go.FA
