/- A part of the proof. -/
import Derived.Test.YtegefclhhjbfhaaGreatDoorA
import Derived.Laws.StructEq
import Derived.Lib.UnsafeStr
import Derived.Deep.AppendSrc
import Derived.Deep.Upon
import Derived.Room.Entries
import Derived.Laws.MakeOwn
import Derived.Laws.AppendOwn
set_option linter.unusedVariables false
set_option linter.unusedSimpArgs false
namespace Go.AM
noncomputable section
abbrev _root_.Go.Gx:=@List.length_append
abbrev _root_.Go.Ji:=@Nat.succ_mul
abbrev _root_.Go.Ii:=@Array.length_toList
abbrev _root_.Go.IW:=@List.drop_drop
abbrev _root_.Go.IL:=@List.take_of_length_le
abbrev _root_.Go.HC:=@List.drop_eq_getElem_cons
abbrev _root_.Go.GH:=@List.getElem_mem
abbrev _root_.Go.H4:=@Bool.or_eq_false_iff
abbrev _root_.Go.IX:=@Bool.not_eq_false'
abbrev _root_.Go.Gz:=@Int.toNat_natCast
abbrev _root_.Go.Ju:=@Option.map_none
abbrev _root_.Go.Hb:=@List.eq_nil_of_length_eq_zero
abbrev _root_.Go.H5:=@List.mem_of_mem_take
abbrev _root_.Go.Ig:=@List.mem_of_mem_drop
abbrev _root_.Go.Hr:=@Nat.mul_le_mul_right
abbrev _root_.Go.Iy:=@List.length_nil
abbrev _root_.Go.IM:=@Nat.zero_le
abbrev _root_.Go.Iz:=@Array.getElem?_toList
variable {A A' G:AH}{o2:AObj}{ts:Array TypeId}{as:Array Value}{E:Env}{c' els news tl vs vs':Lh}{B b c d i j lo m n sz:Nat}{L:Nat->Bool}{fz:Nat×Nat}{o:Oper}{ρ:Operand->Lj}{ρ':Operand->Value}{P:Program}{σ σ':Sig}{F:T Value}{e t ty:TypeId}{a' s' v v' x x' y y':Value}{w:World}
def symI(op:BinOp)(k:IntKind)(x y:Int):Lj:=
 match op with
 | .add=>some (.int k (k.wrap (x+y)))
 | .sub=>some (.int k (k.wrap (x-y)))
 | .mul=>some (.int k (k.wrap (x*y)))
 | .quo=>bif decide (y=0)then none else some (.int k (k.wrap (x.tdiv y)))
 | .rem=>bif decide (y=0)then none else some (.int k (x.tmod y))
 | .and=>some (.int k (k.wrap (BitVec.ofInt k.bits x &&& BitVec.ofInt k.bits y).toNat))
 | .or=>some (.int k (k.wrap (BitVec.ofInt k.bits x ||| BitVec.ofInt k.bits y).toNat))
 | .xor=>some (.int k (k.wrap (BitVec.ofInt k.bits x ^^^ BitVec.ofInt k.bits y).toNat))
 | .andNot=>some (.int k (k.wrap (BitVec.ofInt k.bits x &&& ~~~ BitVec.ofInt k.bits y).toNat))
 | .eql=>some (.bool (decide (x=y)))
 | .neq=>some (.bool (!decide (x=y)))
 | .lss=>some (.bool (decide (x<y)))
 | .leq=>some (.bool (decide (x<=y)))
 | .gtr=>some (.bool (decide (y<x)))
 | .geq=>some (.bool (decide (y<=x)))
 | .shl=>none
 | .shr=>none
def nO(op:BinOp)(k:IntKind)(x:Int)(k':IntKind)(y:Int):Lj:=
 match op with
 | .shl=>bif decide (y<0)then none else some (.int k (k.wrap (x*2 ^ (min y.toNat k.bits))))
 | .shr=>bif decide (y<0)then none else some (.int k (x.fdiv (2 ^ (min y.toNat k.bits))))
 |op=>bif dm k k' then symI op k x y else none
theorem un{l:BinOp}{x y:Operand}{k p:IntKind}{a b:Int}(h:nO l k a p b=some v):
 (do eqGuard l t x y (.int k a) (.int p b);binOp l t (.int k a) (.int p b)).run P w=.ok v w/\scal v=true:=by
 simp only[GN,gt,GJ];have q:∀ l,l≠ .shl->l≠ .shr->(bif dm k p then symI l k a b else none)=some v->(binOp l t (.int k a) (.int p b)).run P w=.ok v w/\scal v=true:=by
  intro l u s g;cases r:dm k p with
  |false=>rw[r]at g;simp at g
  |true=>
  rw[r]at g;simp only[C']at g;obtain rfl:k=p:=by simpa[dm]using r
  unfold symI at g;split at g<;>try (exact absurd rfl ‹_›)
  all_goals first
   | (cases f:decide (b=0)with
      |true=>simp only[f,C']at g;cases g
      | false=>
        simp only[f,GT,osI]at g
        subst g
        have f:b≠0:=by simpa using f
        exact⟨by simp[binOp,Op.intDiv,f],rfl⟩)
   |(cases g;refine⟨?_,rfl⟩;simp[binOp,Op.intArith,Op.intBits,Op.intCmp,bne];done)
   |(cases g;refine⟨?_,rfl⟩;simp[binOp,Op.intArith,Op.intBits,Op.intCmp,bne];first|rfl|exact fU _ _)
   |skip
 unfold nO at h;split at h;cases f:decide (b<0)with
 |true=>simp only[f,C']at h;cases h
 | false=>
  simp only[f,GT,osI]at h;subst h;have f:¬ b<0:=by simpa using f
  exact⟨by simp only[binOp,Op.shift];rw[D' f];rfl,rfl⟩
 cases f:decide (b<0)with
 |true=>simp only[f,C']at h;cases h
 | false=>
  simp only[f,GT,osI]at h;subst h;have f:¬ b<0:=by simpa using f
  exact⟨by simp only[binOp,Op.shift];rw[D' f];rfl,rfl⟩
 exact q _ ‹_› ‹_› h
theorem aV(x:Value)(l:Lh):am (x::l)=x.cells.toList++am l:=rfl
theorem bz(l m:Lh):am (l++m)=am l++am m:=by simp[am]
theorem ap{sz:Nat}:∀ {els:Lh},(∀x∈els,x.cells.size=sz)->(am els).length=els.length*sz
 | [],_=>by simp[am]
 |x::l,h=>by rw[aV,Gx,ap (λy a=>h y (by simp[a]))];have:=h x (by simp);simp only[GY,Ji,Ii,this];omega
theorem bT{sz:Nat}:∀ {els:Lh}(i:Nat),(∀x∈els,x.cells.size=sz)->(am els).drop (i*sz)=am (els.drop i)
 |els,0,_=>by simp
 | [],i+1,_=>by simp[am]
 |x::l,i+1,h=>by have f:=h x (by simp);rw[aV,List.drop_succ_cons,<-bT i (λy a=>h y (by simp[a])),Ji,Nat.add_comm,<-IW];congr 1;rw[List.drop_left' (by simpa using f)]
theorem cd{sz:Nat}:∀ {els:Lh}(i:Nat),(∀x∈els,x.cells.size=sz)->(am els).take (i*sz)=am (els.take i)
 |els,0,_=>by simp[am]
 | [],i+1,_=>by simp[am]
 |x::l,i+1,h=>by have f:=h x (by simp);rw[aV,List.take_succ_cons,aV,<-cd i (λy a=>h y (by simp[a])),Ji,Nat.add_comm,List.take_append,IL (by simp;omega)];congr 2;simp[f]
theorem lK(h:∀ x∈els,x.cells.size=sz)(a:els[i]? =some x):((am els).drop (i*sz)).take sz=x.cells.toList:=by
 rw[bT i h];have f:i<els.length:=by rcases Hg i els.length with g|g;exact g;rw[Hw g]at a;cases a
 rw[HC f];rw[E' f]at a;simp only[osI]at a;rw[a,aV,List.take_left' (by simpa using h x (by rw[<-a];exact GH f))]
theorem xh(R:Rel P σ A w){o:Nat}{c:Array Value}
 (g:σ.ro b=some (.cells c e fz)) (f:∀ x∈els,x.cells.size=sz) (h:VRs σ (am els) ((c.toList.drop o).take (els.length*sz))) (k:els[i]? =some x):
 ∃l',VRs σ x.cells.toList l'/\∀ (j:Nat) v',l'[j]? =some v'->w.cell? ⟨b,o+i*sz+j,none⟩=some v':=by
 refine⟨(((c.toList.drop o).take (els.length*sz)).drop (i*sz)).take sz,?_,λj v' a=>?_⟩;rw[<-lK f k];exact(h.drop _).take _;rw[GZ]at a;split at a;rw[GV,GZ]at a;split at a;rw[GV]at a;have l:c[o+(i*sz+j)]? =some v':=by simpa using a
 simp[World.cell?,R.ro b _ g,Hs,l];cases a;cases a
def ldat(E:Env)(t:TypeId)(els:Lh)(i j:Nat):Lj:=
 match nth els i with
 | some x=>(match und E t with
   | some d=>bif br d then(match E.ti t with
    |some ti=>bif Nat.beq ((x.cells.toList.drop j).take ti.size).length ti.size then some (.agg ⟨(x.cells.toList.drop j).take ti.size⟩)else none
    | none=>none)
     else nth x.cells.toList j
   |none=>none)
 |none=>none
theorem vL(r:E.Ok)(R:Rel E.P σ A w){o:Nat}{c:Array Value}
 (C:σ.ro b=some (.cells c e fz)) (z:∀ x∈els,x.cells.size=sz) (K:VRs σ (am els) ((c.toList.drop o).take (els.length*sz))) (h:ldat E t els i j=some v):
 ∃v',(Instr.loadAt t (.pointer (some ⟨b,o+i*sz+j,none⟩))).run E.P w=.ok v' w/\VR σ v v':=by
 unfold ldat at h;split at h;rename_i x D;rw[aN]at D;obtain⟨s,I,f⟩:=xh R C z K D;split at h;rename_i d H;cases g:br d with
 | true=>
  simp only[g,C']at h;split at h;rename_i l u;cases a:Nat.beq ((x.cells.toList.drop j).take l.size).length l.size;rw[a]at h;simp at h;rw[a]at h;simp only[C',osI]at h;subst h;have a:=Gy a;have p:=(I.drop j).take l.size;refine⟨.agg ⟨(s.drop j).take l.size⟩,?_,.agg p⟩;have J:((s.drop j).take l.size).length=l.size:=by rw[p.length,a]
  have k:=I7 (P:=E.P) w ⟨b,o+i*sz+j,none⟩ ((s.drop j).take l.size) (λm v q=>by rw[aL];rw[GZ]at q;split at q;rw[GV]at q;rw[show o+i*sz+j+m=o+i*sz+(j+m)by omega];exact f _ _ q;cases q)
  rw[J]at k;simp[Instr.loadAt,Instr.sureAddr,loadVar,cG r H,g,aD r u,k];cases h
 |false=>simp only[g,GT]at h;rw[aN]at h;obtain⟨v',N,M⟩:=I.get h;refine⟨v',?_,M⟩;have:=f j v' N;simp[Instr.loadAt,Instr.sureAddr,loadVar,cG r H,g,this]
 cases h;cases h
def optA(ρ:Operand->Lj)(x:Option Operand):Option Lj:=
 match x with
 |none=>some none
 |some x=>(match ρ x with|some v=>bif scal v then some (some v)else none|none=>none)
theorem iV(a:OpR σ ρ ρ'){x:Option Operand}{v:Lj}(h:optA ρ x=some v):x.map ρ'=v:=by unfold optA at h;split at h;cases h;rfl;rename_i x;split at h;rename_i u g;cases f:scal u;rw[f]at h;simp at h;rw[f]at h;simp only[C',osI]at h;subst h;simp[mf f (a x u g)];cases h
def symQ (E:Env)(ρ:Operand->Lj)(op:Op):Lj:=
 match op with
 | .binOp op t x y _=>(match ρ x with
   |some (.int k a)=>(match ρ y with|some (.int k' b)=>nO op k a k' b|_=>none)
   |some (.agg ⟨xs⟩)=>(match ρ y with|some (.agg ⟨ys⟩)=>Fm E op t xs ys|_=>none)
   |_=>none)
 | .convert s d x=>(match ρ x with
   |some (.int _ n)=>(match und E s,und E d with|some _,some (.int k)=>some (.int k (k.wrap n))|_,_=>none)
   |_=>none)
 | .indexAddr t x i=>(match ρ x with
   | some (.func (.yield sz) ⟨els⟩ ⟨[]⟩)=>(match ρ i,und E t with
     | some (.int _ n),some (.slice e)=>(match E.ti e with
       |some ie=>bif (Nat.beq ie.size sz&&Nat.blt 0 sz)&&(decide (0<=n)&&decide (n<els.length))then some (.func (.yield sz) ⟨els⟩ ⟨[.int .i64 n.toNat,.int .i64 (0:Nat)]⟩)else none
       |none=>none)
     |_,_=>none)
   |_=>none)
 | .fieldAddr t x f=>(match ρ x with
   | some (.func (.yield sz) ⟨els⟩ ⟨[.int .i64 i,.int .i64 j]⟩)=>(match und E t with
     | some (.struct fs)=>(match nth fs.toList f with
       | some fd=>(match E.ti fd.type with
         |some ti=>bif Nat.beq ti.size 0|| !Nat.blt (j.toNat+fd.offset) sz then none else some (.func (.yield sz) ⟨els⟩ ⟨[.int .i64 i,.int .i64 (j.toNat+fd.offset:Nat)]⟩)
         |none=>none)
       |none=>none)
     |_=>none)
   |_=>none)
 | .load t a=>(match ρ a with
   |some (.func (.yield _) ⟨els⟩ ⟨[.int .i64 i,.int .i64 j]⟩)=>ldat E t els i.toNat j.toNat
   |_=>none)
 | .slice t x lo hi mx=>(match ρ x with
   | some (.func (.yield sz) ⟨els⟩ ⟨[]⟩)=>(match mx,optA ρ lo,optA ρ hi with
     | none,some l,some h=>(match und E t,bnds els.length els.length l h none with
       | some (.slice e),some (a,b,_)=>(match E.ti e with
         |some ie=>bif Nat.beq ie.size sz then some (.func (.yield sz) ⟨(els.take b).drop a⟩ ⟨[]⟩)else none
         |none=>none)
       |_,_=>none)
     |_,_,_=>none)
   |_=>none)
 | .call c=>(match c.callee with
   | .builtin .len=>(match c.args.toList,c.argTypes.toList with
     | x::_,t::_=>(match ρ x with
       |some (.func (.yield _) ⟨els⟩ ⟨[]⟩)=>(match und E t with|some (.slice _)=>some (.int .i64 els.length)|_=>none)
       |_=>none)
     |_,_=>none)
   |_=>none)
 |_=>none
theorem Cd(H:E.Ok)(R:Rel E.P σ A w)(p:OpR σ ρ ρ')
 (h:symQ E ρ o.op=some v):∃ v',(execOp ρ' o).run E.P w=.ok (.value v') w/\VR σ v v':=by
 unfold symQ at h;unfold execOp;split at h;rename_i op t x y yt q;rw[q];split at h;rename_i k a ha;split at h;rename_i k' b C;have e1:ρ' x=.int k a:=by have:=p x _ ha;generalize ρ' x=z at this;cases this;rfl
 have e2:ρ' y=.int k' b:=by have:=p y _ C;generalize ρ' y=z at this;cases this;rfl
 obtain⟨g1,g2⟩:=un (P:=E.P) (t:=t) (x:=x) (y:=y) (w:=w) h;refine⟨v,?_,eP g2 σ⟩;simp only[e1,e2,GN]at g1 ⊢;rw[g1];rfl;cases h;rename_i xs ha;split at h;rename_i ys C;have e1:∃ V,ρ' x=.agg ⟨V⟩/\VRs σ xs V:=by have:=p x _ ha;generalize ρ' x=z at this;cases this with|agg h=>exact⟨_,rfl,h⟩
 have e2:∃ U,ρ' y=.agg ⟨U⟩/\VRs σ ys U:=by have:=p y _ C;generalize ρ' y=z at this;cases this with|agg h=>exact⟨_,rfl,h⟩
 obtain⟨V,e1,v1⟩:=e1;obtain⟨U,e2,v2⟩:=e2;obtain⟨g1,g2⟩:=zM H v1 v2 (x:=x) (y:=y) (w:=w) h;refine⟨v,?_,eP g2 σ⟩;simp only[e1,e2,GN]at g1 ⊢;rw[g1];rfl;cases h;cases h;rename_i s d x q;rw[q];split at h;rename_i k0 n hn;have e1:ρ' x=.int k0 n:=by have:=p x _ hn;generalize ρ' x=z at this;cases this;rfl
 split at h;rename_i ds k hs hd;cases h;exact⟨_,by simp[e1,convert,af H hs,af H hd,Conv.intToInt],.int _ _⟩;cases h;cases h;rename_i t x i q;rw[q];split at h;rename_i sz els M;split at h;rename_i k n e hi S;have e2:ρ' i=.int k n:=by have:=p i _ hi;generalize ρ' i=z at this;cases this;rfl
 split at h;rename_i N Q;cases C:(Nat.beq N.size sz&&Nat.blt 0 sz)&&(decide (0<=n)&&decide (n<(els.length:Int)));rw[C]at h;simp at h;rw[C]at h;simp only[C',osI]at h;subst h;simp only[f',GQ,GL,HY]at C;obtain⟨⟨rfl,a0⟩,h0,h1⟩:=C;have D:=p x _ M;generalize hy:ρ' x=y at D;cases D with
 |func fn O=>simp[Fn.still]at O
 |dat J u hk X=>refine⟨_,?_,.datP J u (i:=n.toNat) (by omega) a0 X⟩;simp[hy,e2,Instr.indexAt,asIntOf,af H S,Instr.sureAddr,h0,h1,aD H Q,aL]
 |datN=>simp at h1;omega
 |datE=>simp at h1;omega
 cases h;cases h;cases h;rename_i t x f q;rw[q];split at h;rename_i sz els i j M;split at h;rename_i fs S;split at h;rename_i fd O;rw[aN]at O;split at h;rename_i ti a5;cases C:Nat.beq ti.size 0|| !Nat.blt (j.toNat+fd.offset) sz with
 |true=>rw[C]at h;simp at h
 | false=>
  rw[C]at h;simp only[GT,osI]at h;subst h;simp only[H4,IX,HY]at C;obtain⟨hz,a1⟩:=C;have a3:=aW hz;have a9:fs[f]? =some fd:=by simpa using O
  have D:=p x _ M;generalize hy:ρ' x=y at D;cases D with
  |func fn O=>simp[Fn.still]at O
  | @datP b o _ i j _ _ _ _ J u hi hj X=>simp only[Gz]at a1 ⊢;refine⟨_,?_,.datP J u hi a1 X⟩;simp[hy,Instr.fieldAt,af H S,a9,Instr.sureAddr,fieldPlace,aD H a5,a3,aL,Hs]
 cases h;cases h;cases h;cases h;rename_i t a q;rw[q];split at h;rename_i sz els i j M;have D:=p a _ M;generalize hy:ρ' a=y at D;cases D with
 |func fn O=>simp[Fn.still]at O
 |datP J u hi hj X=>simp only[Gz]at h;obtain⟨v',g1,g2⟩:=vL H R J u X h;exact⟨v',by simp[hy,g1],g2⟩
 cases h;rename_i t x lo hi mx q;rw[q];split at h;rename_i sz els M;split at h;rename_i l hh hl a8;split at h;rename_i e a b m S C;split at h;rename_i N Q;cases hs:Nat.beq N.size sz;rw[hs]at h;simp at h;rw[hs]at h;simp only[C',osI]at h;subst h;obtain rfl:=Gy hs;have D:=p x _ M;simp only[iV p hl,iV p a8,Ju,GN];generalize ρ' x=y at D ⊢;cases D with
 |func fn O=>simp[Fn.still]at O
 | @dat b0 o k _ _ _ c _ J u hk X=>
  obtain⟨g,h1,h2,h3,h4,_⟩:=c9 (P:=E.P) (w:=w) (b:=true) C hk;simp only[IV,HO,HV]at g;have hm:=h4 rfl;have I:(Instr.sliceAt t (.slice (some ⟨b0,o,none⟩) els.length k) l hh none).run E.P w=.ok (.slice (some (if k=a then⟨b0,o,none⟩else(⟨b0,o,none⟩:Addr).add (a*N.size))) (b-a) (k-a)) w:=by simp only[Instr.sliceAt,Instr.slice,GN,af H S,GJ,g,aD H Q,HB,Hx];split<;>rfl
  refine⟨_,by rw[I];rfl,?_⟩;have K:((els.take b).drop a).length=b-a:=by simp;omega
  by_cases a7:k=a;have:(els.take b).drop a=[]:=by apply Hb;omega
  rw[this,show b-a=0 by omega];exact .datE _ _ _;rw[D' a7,aL,<-K];refine .dat J (λx M=>u x (H5 (Ig M))) (by omega) ?_;have D:=(X.take (b*N.size)).drop (a*N.size);rw[cd b u,bT a (λx M=>u x (H5 M))]at D;have e:List.drop (a*N.size) (List.take (b*N.size) (List.take (els.length*N.size) (List.drop o c.toList)))=List.take (((els.take b).drop a).length*N.size) (List.drop (o+a*N.size) c.toList):=by rw[List.take_take,Nat.min_eq_left (Hr _ (by omega)),List.drop_take,IW,K,Nat.sub_mul]
  rw[e]at D;exact D
 | datN=>
  obtain⟨g,h1,h2,h3,h4,_⟩:=c9 (P:=E.P) (w:=w) (b:=true) (cp:=0) C (GK _);simp only[IV,HO,HV]at g;have Y:b=0:=by simp at h3;omega
  have Z:a=0:=by omega
  subst Y;subst Z;refine⟨.slice none 0 0,?_,by simpa using VR.datN _⟩;simp only[Iy]at g;simp[Instr.sliceAt,Instr.slice,af H S,g,aD H Q]
 | datE _ ad k=>
  obtain⟨g,h1,h2,h3,h4,_⟩:=c9 (P:=E.P) (w:=w) (b:=true) (cp:=k) C (IM _);simp only[IV,HO,HV]at g;have Y:b=0:=by simp at h3;omega
  have Z:a=0:=by omega
  subst Y;subst Z;simp only[Iy]at g;have I:(Instr.sliceAt t (.slice (some ad) 0 k) l hh none).run E.P w=.ok (.slice (some (if k=0 then ad else ad.add (0*N.size))) (0-0) (k-0)) w:=by simp only[Instr.sliceAt,Instr.slice,GN,af H S,GJ,g,aD H Q,HB,Hx];split<;>rfl
  exact⟨_,by rw[I];rfl,by simpa using VR.datE _ _ _⟩
 cases h;cases h;cases h;cases h;rename_i c q;rw[q];split at h;rename_i C;split at h;rename_i x r t ts a4 a6;split at h;rename_i sz els M;split at h;rename_i e S;cases h;have D:=p x _ M;have ha:(c.args.map ρ')[0]? =some (ρ' x):=by rw[Array.getElem?_map,<-Iz,a4];rfl
 have ht:c.argTypes[0]? =some t:=by rw[<-Iz,a6];rfl
 refine⟨.int .i64 els.length,?_,.int _ _⟩;generalize ρ' x=y at D ha;have a2:∃ ad k,y=.slice ad els.length k:=by
  cases D with
  |func fn O=>simp[Fn.still]at O
  |dat=>exact⟨_,_,rfl⟩
  |datN=>exact⟨_,_,rfl⟩
  |datE=>exact⟨_,_,rfl⟩
 obtain⟨ad,k,rfl⟩:=a2;have K:(Builtin.len_ c.argTypes o.type (c.args.map ρ')).run E.P w=.ok (.int .i64 els.length) w:=by unfold Builtin.len_;rw[ha,ht];simp[af H S,goInt]
 simp only[resolve,C,GN,HB,GJ,invoke,builtin,K];cases h;cases h;cases h;cases h;cases h
abbrev _root_.Go.GE:=@List.getElem?_eq_some_iff
abbrev _root_.Go.GM:=@List.mem_of_getElem?
abbrev _root_.Go.Ib:=@Nat.add_mul
abbrev _root_.Go.Hn:=@List.getElem?_append_left
abbrev _root_.Go.Hy:=@List.getElem?_append_right
def isG(m:Nat):Bool:=Nat.ble (unk+3) m
def gLo(sz o:Nat):Nat:=bif Nat.beq sz 1 then o else o/sz
def gOff(sz o a:Nat):Nat:=bif Nat.beq sz 1 then a+o else o+a*sz
def gIdx(sz o i:Nat):Nat:=bif Nat.beq sz 1 then i+o else i+o/sz
def gPtr(sz B i j:Nat):Value:=.func (.yield sz) ⟨[.pointer (some ⟨B,0,none⟩)]⟩ ⟨[.int .i64 (i:Nat),.int .i64 (j:Nat),.bool true]⟩
theorem lp(h:0<sz):gLo sz (lo*sz)=lo:=by
 unfold gLo;cases a:Nat.beq sz 1 with
 |true=>have:=Gy a;subst this;simp
 |false=>simp only[GT];exact Nat.mul_div_cancel _ h
theorem m9(sz o a:Nat):gOff sz o a=o+a*sz:=by
 unfold gOff;cases f:Nat.beq sz 1 with
 |true=>have:=Gy f;subst this;simp;omega
 |false=>rfl
theorem EX(h:0<sz):gIdx sz (lo*sz) i=i+lo:=by
 unfold gIdx;cases a:Nat.beq sz 1 with
 |true=>have:=Gy a;subst this;simp
 |false=>simp only[GT];rw[Nat.mul_div_cancel _ h]
theorem isG_iff:isG m=true↔unk+3<=m:=by unfold isG;rw[GO]
theorem b8{o:Nat}(h:VR σ (.slice (some ⟨B,o,none⟩) n m) y)(r:isG m=true):
 (n=0/\∃ a,y=.slice a 0 0)∨∃ b d c lo k,σ B=some (b,d,c)/\y=.slice (some ⟨b,d+o,none⟩) n k/\n<=k/\lo+k<=c/\o=lo*gsz m:=by
 rw[isG_iff]at r;generalize l:m=m0 at h;cases h with
 |slice i n k f u=>omega
 |sliceU n f g=>omega
 |sliceV i n k f g=>omega
 |sliceE a a' k=>omega
 |gs0 B o m a q=>exact .inl ⟨rfl,a,rfl⟩
 |gs lo o n k m f g s p q=>subst l;exact .inr ⟨_,_,_,lo,k,f,rfl,g,s,p⟩
theorem VR.gsMk{k:Nat}(h:σ B=some (b,d,c))(f:isG m=true)(a:n<=k)(g:lo+k<=c):VR σ (.slice (some ⟨B,lo*gsz m,none⟩) n m) (.slice (some ⟨b,d+lo*gsz m,none⟩) n k):=
 .gs lo _ n k m h a g rfl (isG_iff.1 f)
theorem VR.gs0Mk(B o m:Nat)(a:Option Addr)(f:isG m=true):VR σ (.slice (some ⟨B,o,none⟩) 0 m) (.slice a 0 0):=
 .gs0 B o m a (isG_iff.1 f)
theorem oZ(h:∀ x∈els,x.cells.size=sz)(a:els[i]? =some x)(j:Nat)(f:j<sz):(am els)[i*sz+j]? =x.cells.toList[j]?:=by rw[<-lK h a,GZ,Gw f,GV]
theorem wz(h:OR P σ w.heap[b]? d c (.gro els tl e))(l:(els++tl)[i]? =some x):
 ∃l',VRs σ x.cells.toList l'/\∀ (j:Nat) v',l'[j]? =some v'->w.cell? ⟨b,d+i*P.cellsOf e+j,none⟩=some v':=by
 obtain⟨c',lo,H,z,K,u,q,J,I⟩:=h;generalize r:P.cellsOf e=sz at*;have s:i<(els++tl).length:=(GE.1 l).1;have f:x.cells.toList.length=sz:=by simpa using q x (GM l)
 have g:(i+1)*sz<=c*sz:=Hr _ (by omega);rw[Ji]at g;have k:((c'.toList.drop (d+i*sz)).take sz).length=sz:=by simp;omega
 refine⟨(c'.toList.drop (d+i*sz)).take sz,VRs.of_get (by rw[k,f]) λj v a=>?_,λj v' a=>?_⟩;have p:j<sz:=by rw[<-f];exact(GE.1 a).1
 obtain⟨v',D,C⟩:=u (i*sz+j) v (by rw[oZ q l j p];exact a);refine⟨v',?_,C⟩;rw[GZ,Gw p,GV,Hs];simpa using D;rw[GZ]at a;split at a;rw[GV]at a;have:c'[d+i*sz+j]? =some v':=by simpa using a
 simp[World.cell?,z,this];cases a
theorem zp(r:E.Ok){base:Nat}(C:nth els i=some x){l':Lh}(z:VRs σ x.cells.toList l')(f:∀ (m:Nat) v',l'[m]? =some v'->w.cell? ⟨b,base+m,none⟩=some v')(h:ldat E t els i j=some v):
 ∃v',(Instr.loadAt t (.pointer (some ⟨b,base+j,none⟩))).run E.P w=.ok v' w/\VR σ v v':=by
 unfold ldat at h;simp only[C]at h;split at h;rename_i d u;cases g:br d with
 | true=>
  simp only[g,C']at h;split at h;rename_i l s;cases a:Nat.beq ((x.cells.toList.drop j).take l.size).length l.size;rw[a]at h;simp at h;rw[a]at h;simp only[C',osI]at h;subst h;have a:=Gy a;have p:=(z.drop j).take l.size;refine⟨.agg ⟨(l'.drop j).take l.size⟩,?_,.agg p⟩;have D:((l'.drop j).take l.size).length=l.size:=by rw[p.length,a]
  have k:=I7 (P:=E.P) w ⟨b,base+j,none⟩ ((l'.drop j).take l.size) (λm v q=>by rw[aL];rw[GZ]at q;split at q;rw[GV]at q;rw[show base+j+m=base+(j+m)by omega];exact f _ _ q;cases q)
  rw[D]at k;simp[Instr.loadAt,Instr.sureAddr,loadVar,cG r u,g,aD r s,k];cases h
 |false=>simp only[g,GT]at h;rw[aN]at h;obtain⟨v',I,H⟩:=z.get h;refine⟨v',?_,H⟩;have:=f j v' I;simp[Instr.loadAt,Instr.sureAddr,loadVar,cG r u,g,this]
 cases h
def groQ (E:Env)(A:AH)(ρ:Operand->Lj)(op:Op):Lj:=
 match op with
 | .indexAddr t x i=>(match ρ x with
   | some (.slice (some ⟨B,o,none⟩) n m)=>bif isG m then(match ρ i,und E t with
     | some (.int _ k),some (.slice e)=>(match E.ti e with
       |some ie=>bif (Nat.beq ie.size (gsz m)&&Nat.blt 0 (gsz m))&&(decide (0<=k)&&decide (k<n))then some (gPtr (gsz m) B (gIdx (gsz m) o k.toNat) 0)else none
       |none=>none)
     |_,_=>none)else none
   | some (.func (.yield sz) ⟨[.pointer (some ⟨B,0,none⟩)]⟩ ⟨[.int .i64 a,.int .i64 j,.bool true]⟩)=>(match ρ i,und E t with
     | some (.int _ k),some (.array len el)=>(match E.ti el with
       |some ie=>bif (decide (0<=k)&&decide (k<len))&&Nat.blt (j.toNat+k.toNat*ie.size) sz then some (gPtr sz B a.toNat (j.toNat+k.toNat*ie.size))else none
       |none=>none)
     |_,_=>none)
   |_=>none)
 | .fieldAddr t x f=>(match ρ x with
   | some (.func (.yield sz) ⟨[.pointer (some ⟨B,0,none⟩)]⟩ ⟨[.int .i64 i,.int .i64 j,.bool true]⟩)=>(match und E t with
     | some (.struct fs)=>(match nth fs.toList f with
       | some fd=>(match E.ti fd.type with
         |some ti=>bif Nat.beq ti.size 0|| !Nat.blt (j.toNat+fd.offset) sz then none else some (gPtr sz B i.toNat (j.toNat+fd.offset))
         |none=>none)
       |none=>none)
     |_=>none)
   |_=>none)
 | .load t a=>(match ρ a with
   | some (.func (.yield sz) ⟨[.pointer (some ⟨B,0,none⟩)]⟩ ⟨[.int .i64 i,.int .i64 j,.bool true]⟩)=>(match A.t.get B with
     | some (.gro els tl e)=>(match E.ti e with
       |some ie=>bif Nat.beq ie.size sz then ldat E t (glue els tl) i.toNat j.toNat else none
       |none=>none)
     |_=>none)
   |_=>none)
 | .slice t x lo hi mx=>(match ρ x with
   | some (.slice (some ⟨B,o,none⟩) n m)=>bif isG m then(match optA ρ lo,optA ρ hi,optA ρ mx with
     | some l,some h,some z=>(match und E t,bnds n n l h z with
       | some (.slice e),some (a,b,_)=>(match E.ti e with
         |some ie=>bif Nat.beq ie.size (gsz m)&&Nat.blt 0 (gsz m)then some (.slice (some ⟨B,gOff (gsz m) o a,none⟩) (b-a) m)else none
         |none=>none)
       |_,_=>none)
     |_,_,_=>none)else none
   |_=>none)
 |_=>none
theorem ET(H:E.Ok)(R:Rel E.P σ A w)(g:OpR σ ρ ρ')
 (h:groQ E A ρ o.op=some v):∃ v',(execOp ρ' o).run E.P w=.ok (.value v') w/\VR σ v v':=by
 unfold groQ at h;unfold execOp;split at h;rename_i t x i D;rw[D];split at h;rename_i B o n m O;cases N:isG m;rw[N]at h;cases h;rw[N]at h;simp only[C']at h;split at h;rename_i kk k e hi Q;have e2:ρ' i=.int kk k:=by have:=g i _ hi;generalize ρ' i=z at this;cases this;rfl
 split at h;rename_i J u;cases p:(Nat.beq J.size (gsz m)&&Nat.blt 0 (gsz m))&&(decide (0<=k)&&decide (k<(n:Int)));rw[p]at h;simp at h;rw[p]at h;simp only[C',osI]at h;subst h;simp only[f',GQ,GL,HY]at p;obtain⟨⟨Y,U⟩,h0,h1⟩:=p;have I:=g x _ O;generalize S:ρ' x=y at I;rcases b8 I N with⟨en,a,ey⟩|⟨b,d,c,lo,kq,s,ey,hn,hc,eo⟩;subst en;simp at h1;omega;subst ey;rw[show gIdx (gsz m) o k.toNat=k.toNat+lo by rw[eo];exact EX U];rw[eo]at S;refine⟨.pointer (some ⟨b,d+(k.toNat+lo)*gsz m+0,none⟩),?_,.gp (gsz m) (k.toNat+lo) 0 s⟩;have ea:d+lo*gsz m+k.toNat*J.size=d+(k.toNat+lo)*gsz m+0:=by rw[Y,Ib];omega
 simp[S,e2,Instr.indexAt,asIntOf,af H Q,Instr.sureAddr,h0,h1,aD H u,aL];simpa using ea;cases h;cases h;rename_i sz B a j O;split at h;rename_i kk k a3 el hi Q;have e2:ρ' i=.int kk k:=by have:=g i _ hi;generalize ρ' i=z at this;cases this;rfl
 split at h;rename_i J u;cases p:(decide (0<=k)&&decide (k<(a3:Int)))&&Nat.blt (j.toNat+k.toNat*J.size) sz;rw[p]at h;simp at h;rw[p]at h;simp only[C',osI]at h;subst h;simp only[f',GQ]at p;obtain⟨⟨h0,h1⟩,_⟩:=p;have I:=g x _ O;generalize S:ρ' x=y at I;cases I with
 |func fn X=>simp[Fn.still]at X
 | @gp _ b d c _ a j s=>refine⟨_,?_,.gp sz a (j+k.toNat*J.size) s⟩;simp[S,e2,Instr.indexAt,asIntOf,af H Q,Instr.sureAddr,h0,h1,aD H u,aL,Hs]
 cases h;cases h;cases h;rename_i t x f D;rw[D];split at h;rename_i sz B i j O;split at h;rename_i fs Q;split at h;rename_i fd X;rw[aN]at X;split at h;rename_i ti a6;cases p:Nat.beq ti.size 0|| !Nat.blt (j.toNat+fd.offset) sz with
 |true=>rw[p]at h;simp at h
 | false=>
  rw[p]at h;simp only[GT,osI]at h;subst h;simp only[H4,IX,HY]at p;obtain⟨hz,a9⟩:=p;have a5:=aW hz;have b3:fs[f]? =some fd:=by simpa using X
  have I:=g x _ O;generalize S:ρ' x=y at I;cases I with
  |func fn X=>simp[Fn.still]at X
  | @gp _ b d c _ i j s=>simp only[Gz]at a9 ⊢;refine⟨_,?_,.gp sz i (j+fd.offset) s⟩;simp[S,Instr.fieldAt,af H Q,b3,Instr.sureAddr,fieldPlace,aD H a6,a5,aL,Hs]
 cases h;cases h;cases h;cases h;rename_i t a D;rw[D];split at h;rename_i sz B i j O;split at h;rename_i els tl e hB;rw[cb]at h;split at h;rename_i J u;cases p:Nat.beq J.size sz;rw[p]at h;cases h;rw[p]at h;obtain rfl:=Gy p;simp only[C']at h;have I:=g a _ O;generalize S:ρ' a=y at I;cases I with
 |func fn X=>simp[Fn.still]at X
 | @gp _ b d c _ i j s=>
  simp only[Gz]at h;have a7:=R.at hB rfl s;have b4:E.P.cellsOf e=J.size:=by simp[Program.cellsOf,H.ti _ _ u]
  have a1:∃ x,nth (els++tl) i=some x:=by unfold ldat at h;split at h;exact⟨_, ‹_›⟩;cases h
  obtain⟨x,a0⟩:=a1;have V:=a0;rw[aN]at V;obtain⟨l',hl,M⟩:=wz a7 V;rw[b4]at M;obtain⟨v',g1,g2⟩:=zp H a0 hl M h;exact⟨v',by simp[S,g1],g2⟩
 cases h;cases h;cases h;rename_i t x lo hi mx D;rw[D];split at h;rename_i B o n m O;cases N:isG m;rw[N]at h;cases h;rw[N]at h;simp only[C']at h;split at h;rename_i l hh zz hl b1 a4;split at h;rename_i e a b mm Q p;split at h;rename_i J u;cases hs:Nat.beq J.size (gsz m)&&Nat.blt 0 (gsz m);rw[hs]at h;simp at h;rw[hs]at h;simp only[C',osI]at h;subst h;simp only[f',GL,HY]at hs;obtain⟨Y,U⟩:=hs;have I:=g x _ O;simp only[iV g hl,iV g b1,iV g a4,GN];generalize ρ' x=y at I ⊢;rcases b8 I N with⟨en,Z,ey⟩|⟨b0,d,c,q,k,s,ey,hn,hc,eo⟩;subst en;subst ey;obtain⟨r,h1,h2,h3,h4,_⟩:=c9 (P:=E.P) (w:=w) (b:=true) (cp:=0) p (GK _);have b5:b=0:=by omega
 have c0:a=0:=by omega
 have a8:mm=0:=by omega
 subst b5;subst c0;subst a8;simp only[ite_self]at r;refine⟨.slice Z 0 0,?_,by simpa using VR.gs0Mk _ _ m Z N⟩;cases Z with
 |none=>simp[Instr.sliceAt,Instr.slice,af H Q,r,aD H u]
 | some Z=>
  have C:(Instr.sliceAt t (.slice (some Z) 0 0) l hh zz).run E.P w=.ok (.slice (some (if 0=0 then Z else Z.add (0*J.size))) (0-0) (0-0)) w:=by simp only[Instr.sliceAt,Instr.slice,GN,af H Q,GJ,r,aD H u,HB,Hx];rfl
  rw[C];rfl
 subst ey;rw[eo];obtain⟨r,h1,h2,h3,h4,_⟩:=c9 (P:=E.P) (w:=w) (b:=true) p hn;generalize hK:(if zz.isSome then mm else k)=K at r;have c1:mm<=K/\K<=k:=by
  cases zz with
  |none=>simp only[IV,HO,HV]at hK;omega
  |some z=>simp only[Option.isSome_some,Ie]at hK;omega
 have C:(Instr.sliceAt t (.slice (some ⟨b0,d+q*gsz m,none⟩) n k) l hh zz).run E.P w=.ok (.slice (some (if K=a then⟨b0,d+q*gsz m,none⟩else(⟨b0,d+q*gsz m,none⟩:Addr).add (a*J.size))) (b-a) (K-a)) w:=by simp only[Instr.sliceAt,Instr.slice,GN,af H Q,GJ,r,aD H u,HB,Hx];split<;>rfl
 refine⟨_,by rw[C];rfl,?_⟩;by_cases a2:K=a;rw[Gw a2,show b-a=0 by omega,show K-a=0 by omega];exact VR.gs0Mk _ _ m _ N;rw[D' a2,aL,m9,Y,show q*gsz m+a*gsz m=(q+a)*gsz m by rw[Ib],show d+q*gsz m+a*gsz m=d+(q+a)*gsz m by rw[Ib];omega];exact VR.gsMk s N (by omega) (by omega);cases h;cases h;cases h;cases h;cases h
theorem nz{rest:Lh}(h:OR P σ w.heap[b]? d c (.arr els rest n e))(a:(els++rest)[i]? =some v):
 ∃v',w.cell? ⟨b,d+i,none⟩=some v'/\VR σ v v':=by obtain⟨⟨c',lo,p,g,s,f,r⟩,q⟩:=h;obtain⟨v',l,k⟩:=f i v a;exact⟨v',by simp[World.cell?,g,l],k⟩
theorem oY{P:Program}{σ:Sig}{w:World}{b:Nat}:∀ {l:Lh}(o:Nat),(∀(j:Nat) v,l[j]? =some v->∃ v',w.cell? ⟨b,o+j,none⟩=some v'/\VR σ v v')->
 ∃l',VRs σ l l'/\(∀(j:Nat) v',l'[j]? =some v'->w.cell? ⟨b,o+j,none⟩=some v')
 | [],o,_=>⟨[],.nil,λj v' h=>by simp at h⟩
 | x::l,o,hget=>by
  obtain⟨x',p,k⟩:=hget 0 x (by simp);obtain⟨l',g,f⟩:=oY (P:=P) (l:=l) (o+1) (λj v a=>by obtain⟨v',r,q⟩:=hget (j+1) v (by simpa using a);exact⟨v',by rw[show o+1+j=o+(j+1)by omega];exact r,q⟩)
  refine⟨x'::l',.cons k g,λj v' a=>?_⟩;cases j with
  |zero=>simp at a;subst a;simpa using p
  |succ j=>simp at a;rw[show o+(j+1)=o+1+j by omega];exact f j v' a
def arrQ (E:Env)(A:AH)(ρ:Operand->Lj)(op:Op):Lj:=
 match op with
 | .indexAddr t x i=>(match ρ x with
   | some (.pointer (some ⟨B,0,none⟩))=>(match ρ i,und E t with
     | some (.int _ k),some (.array len el)=>(match E.ti el with
       |some ie=>bif (Nat.beq ie.size 1&&Nat.ble 64 len)&&(decide (0<=k)&&decide (k<len))then some (gPtr 1 B k.toNat 0)else none
       |none=>none)
     |_,_=>none)
   |_=>none)
 | .load t a=>(match ρ a with
   | some (.pointer (some ⟨B,o,none⟩))=>(match A.t.get B with
     | some (.arr els rest n e)=>(match und E t with
       | some d=>bif br d then(match E.ti t with
        |some ti=>bif Nat.beq o 0&&Nat.beq ti.size n then some (.agg ⟨els⟩)else none
        | none=>none)
         else bif Nat.ble n o then nth rest (o-n)else none
       |none=>none)
     |_=>none)
   | some (.func (.yield sz) ⟨[.pointer (some ⟨B,0,none⟩)]⟩ ⟨[.int .i64 i,.int .i64 j,.bool true]⟩)=>(match A.t.get B with
     | some (.arr els rest n e)=>(match und E t with
       |some d=>bif br d|| !(Nat.beq sz 1&&Nat.beq j.toNat 0)then none else nth els i.toNat
       |none=>none)
     | some (.cells c e)=>(match und E t with
       |some d=>bif br d|| !(Nat.beq sz 1&&Nat.beq j.toNat 0)then none else nth c i.toNat
       |none=>none)
     |_=>none)
   |_=>none)
 |_=>none
theorem Gg(J:E.Ok)(R:Rel E.P σ A w)(q:OpR σ ρ ρ')
 (h:arrQ E A ρ o.op=some v):∃ v',(execOp ρ' o).run E.P w=.ok (.value v') w/\VR σ v v':=by
 unfold arrQ at h;unfold execOp;split at h;rename_i t x i M;rw[M];split at h;rename_i B N;split at h;rename_i kk k Q el hi u;have e2:ρ' i=.int kk k:=by have:=q i _ hi;generalize ρ' i=z at this;cases this;rfl
 split at h;rename_i ie a0;cases f:(Nat.beq ie.size 1&&Nat.ble 64 Q)&&(decide (0<=k)&&decide (k<(Q:Int)));rw[f]at h;simp at h;rw[f]at h;simp only[C',osI]at h;subst h;simp only[f',GQ,GL]at f;obtain⟨⟨Z,_⟩,h0,h1⟩:=f;have p:=q x _ N;generalize s:ρ' x=y at p;cases p with
 | @ptr _ b d c i hσ=>refine⟨.pointer (some ⟨b,d+k.toNat*1+0,none⟩),?_,.gp 1 k.toNat 0 hσ⟩;simp[s,e2,Instr.indexAt,asIntOf,af J u,Instr.sureAddr,h0,h1,aD J a0,aL,Z]
 cases h;cases h;cases h;rename_i t a M;rw[M];split at h;rename_i B o N;split at h;rename_i els O n e U;have p:=q a _ N;generalize s:ρ' a=y at p;cases p with
 | @ptr _ b d c i hσ=>
  have r:=R.at U rfl hσ;obtain⟨_,D⟩:=id r;split at h;rename_i dd u;cases g:br dd with
  | true=>
   simp only[g,C']at h;split at h;rename_i X Y;cases f:Nat.beq o 0&&Nat.beq X.size n;rw[f]at h;simp at h;rw[f]at h;simp only[C',osI]at h;subst h;simp only[f',GL]at f;obtain⟨rfl,hn⟩:=f;obtain⟨V,g1,g2⟩:=oY (P:=E.P) (σ:=σ) (w:=w) (b:=b) (l:=els) (d+0) (λj v p=>by obtain⟨v',I,H⟩:=nz r (i:=j) (v:=v) (by rw[Hn (GE.1 p).1];exact p);exact⟨v',by simpa using I,H⟩)
   have C:=I7 (P:=E.P) w ⟨b,d+0,none⟩ V (λj v p=>by rw[aL];exact g2 j v p);have hl:V.length=X.size:=by rw[g1.length,D,hn]
   rw[hl]at C;refine⟨.agg ⟨V⟩,?_,.agg g1⟩;have K:(loadCells ⟨b,d,none⟩ X.size).run E.P w=.ok V.toArray w:=by simpa using C
   simp[s,Instr.loadAt,Instr.sureAddr,loadVar,cG J u,g,aD J Y,K];cases h
  |false=>simp only[g,GT]at h;cases f:Nat.ble n o;rw[f]at h;simp at h;rw[f]at h;simp only[C',aN]at h;rw[GO]at f;obtain⟨v',I,H⟩:=nz r (i:=o) (v:=v) (by rw[Hy (by omega),D];exact h);exact⟨v',by simp[s,Instr.loadAt,Instr.sureAddr,loadVar,cG J u,g,I],H⟩
  cases h
 cases h;rename_i sz B i j N;split at h;rename_i els O n e U;split at h;rename_i dd u;cases f:br dd|| !(Nat.beq sz 1&&Nat.beq j.toNat 0)with
 |true=>rw[f]at h;simp at h
 | false=>
  rw[f]at h;simp only[GT,aN]at h;simp only[H4,IX,f',GL]at f;obtain⟨g,rfl,S⟩:=f;have p:=q a _ N;generalize s:ρ' a=y at p;cases p with
  |func fn hf=>simp[Fn.still]at hf
  | @gp _ b d c _ i j hσ=>simp only[Gz]at h S;subst S;have r:=R.at U rfl hσ;obtain⟨v',I,H⟩:=nz r (i:=i) (v:=v) (by rw[Hn (GE.1 h).1];exact h);exact⟨v',by simp[s,Instr.loadAt,Instr.sureAddr,loadVar,cG J u,g,I],H⟩
 cases h;rename_i cs e U;split at h;rename_i dd u;cases f:br dd|| !(Nat.beq sz 1&&Nat.beq j.toNat 0)with
 |true=>rw[f]at h;simp at h
 | false=>
  rw[f]at h;simp only[GT,aN]at h;simp only[H4,IX,f',GL]at f;obtain⟨g,rfl,S⟩:=f;have p:=q a _ N;generalize s:ρ' a=y at p;cases p with
  |func fn hf=>simp[Fn.still]at hf
  | @gp _ b d c _ i j hσ=>simp only[Gz]at h S;subst S;obtain⟨b',d',k',v',q0,I,H⟩:=gK R (B:=B) (i:=i) (c:=cs) (v:=v) (by simp[look,U]) h;rw[hσ]at q0;cases q0;exact⟨v',by simp[s,Instr.loadAt,Instr.sureAddr,loadVar,cG J u,g,I],H⟩
 cases h;cases h;cases h;cases h
def idxB(E:Env)(t:TypeId)(x i:Value):Lj:=
 match x with
 | .func (.yield sz) ⟨els⟩ ⟨[.int .i64 a,.int .i64 b]⟩=>bif E.sym then none else(match i,und E t with
   | .int _ n,some (.array len e)=>(match E.ti e with
     |some ie=>bif (Nat.beq ie.size sz&&(decide (0<=n)&&decide (n<(len:Int))))&&Nat.blt (a.toNat+n.toNat) els.length then some (.func (.yield sz) ⟨els⟩ ⟨[.int .i64 (a.toNat+n.toNat:Nat),.int .i64 b]⟩)else none
     |none=>none)
   |_,_=>none)
 |_=>idxA E t x i
theorem Ey(g:E.Ok){i r:Value}(s:VR σ x x')(q:VR σ i r)(h:idxB E t x i=some v)(w:World):
 ∃v',(Instr.indexAt t x' r).run E.P w=.ok v' w/\VR σ v v':=by
 unfold idxB at h;split at h;rename_i sz els a b;cases u:E.sym with
 |true=>rw[u]at h;simp at h
 | false=>
  rw[u]at h;simp only[GT]at h;split at h;rename_i k n l e D;cases q;split at h;rename_i C p;cases f:(Nat.beq C.size sz&&(decide (0<=n)&&decide (n<(l:Int))))&&Nat.blt (a.toNat+n.toNat) els.length;rw[f]at h;simp at h;rw[f]at h;simp only[C',osI]at h;subst h;simp only[f',GQ,GL,HY]at f;obtain⟨⟨rfl,J,I⟩,z⟩:=f;cases s with
  |func K H=>simp[Fn.still]at H
  | @datP b0 o _ a b _ _ _ _ hro hsz q hj hc=>simp only[Gz]at z ⊢;refine⟨_,?_,.datP hro hsz z hj hc⟩;simp[Instr.indexAt,asIntOf,af g D,Instr.sureAddr,J,I,aD g p,aL,Nat.add_mul];omega
  cases h;cases h
 exact idx_ok g s q h w
def vG(E:Env)(A:AH)(t:TypeId)(a:Value):Lj:=
 match a with
 | .func (.yield _) ⟨els⟩ ⟨[.int .i64 i,.int .i64 j]⟩=>bif E.sym then none else ldat E t els i.toNat j.toNat
 |_=>vH E A t a
theorem zh(k:E.Ok)(R:Rel E.P σ A w){a:Value}(p:VR σ a a')(h:vG E A t a=some v):
 ∃v',(Instr.loadAt t a').run E.P w=.ok v' w/\VR σ v v':=by
 unfold vG at h;split at h;rename_i sz els i j;cases l:E.sym with
 |true=>rw[l]at h;simp at h
 | false=>
  rw[l]at h;simp only[GT]at h;cases p with
  |func z q=>simp[Fn.still]at q
  |datP g f u s r=>simp only[Gz]at h;exact vL k R g f r h
 exact vF k R p h
abbrev _root_.Go.I6:=@Array.toList_map
abbrev _root_.Go.IR:=@Nat.mod_eq_of_lt
abbrev _root_.Go.IN:=@Nat.mod_lt
def nnil:Value->Bool
 | .pointer none| .nilIface| .nilFunc=>false
 | .func (.method _) _ _=>false
 |_=>true
def jX(E:Env)(A:AH)(ρ:Operand->Lj)(b:Builtin)(c:Call)(ty:TypeId):Lj:=
 match b with
 | .len=>(match c.args.toList,c.argTypes.toList with
   |x::_,t::_=>(match ρ x with|some v=>lenA E A t v|none=>none)
   |_,_=>none)
 | .max=>(match mapO ρ c.args.toList with
   |some vs=>bif vs.all scal then(match prun E.P (Builtin.max_ c.argTypes ty ⟨vs⟩)with|some v=>bif flat v then some v else none|none=>none)else none
   |none=>none)
 | .min=>(match mapO ρ c.args.toList with
   |some vs=>bif vs.all scal then(match prun E.P (Builtin.min_ c.argTypes ty ⟨vs⟩)with|some v=>bif flat v then some v else none|none=>none)else none
   |none=>none)
 | .unsafeSliceData=>(match c.args.toList with
   | [x]=>(match ρ x with
     |some (.slice none _ _)=>some (.pointer none)
     |some (.slice (some ⟨B,i,none⟩) n k)=>bif Nat.beq n 0||Nat.beq k 0 then none else some (.pointer (some ⟨B,i,none⟩))
     |_=>none)
   |_=>none)
 |_=>none
def qw(E:Env)(x:Value)(asserted:TypeId)(cok:Bool):Lj:=bif E.sym then none else none
theorem xJ(k:E.Ok){xt a:TypeId}{f:Bool}(l:VR σ x x')(h:qw E x a f=some v)(w:World):
 ∃v',(Instr.typeAssert x' xt a f).run E.P w=.ok v' w/\VR σ v v':=by unfold qw at h;cases g:E.sym<;>rw[g]at h<;>cases h
def bj(E:Env)(A:AH)(ρ:Operand->Lj)(ty:TypeId)(op:Op):Lj:=
 match op with
 | .move x=>ρ x
 | .assign x=>ρ x
 | .pick c a b=>(match ρ c with|some (.bool t)=>(match t with|true=>ρ a|false=>ρ b)|_=>none)
 | .nilCheck x=>(match ρ x with|some v=>bif nnil v then some v else none|none=>none)
 | .build t parts=>(match jZ ρ parts.toList with|some ps=>xA E t ps|none=>none)
 | .binOp op t x y _=>(match ρ x,ρ y with|some a,some b=>binA E op t x y a b|_,_=>none)
 | .unOp op _ x=>(match ρ x with|some (.bool b)=>(match op with| .not=>some (.bool (!b))|_=>none)|some a=>bif scal a then(match prun E.P (Op.unary op a)with|some v=>bif flat v then some v else none|none=>none)else none|none=>none)
 | .convert s d x=>(match ρ x with|some v=>zT E A s d v|none=>none)
 | .makeInterface t x=>(match und E t,ρ x with|some (.interface _),_=>none|some _,some v=>some (.iface t v)|_,_=>none)
 | .makeFunc fn first captured=>bif Fn.still fn then(match mapO ρ first.toList,mapO ρ captured.toList with|some a,some b=>some (.func fn ⟨a⟩ ⟨b⟩)|_,_=>none)else none
 | .slice t x lo hi mx=>(match ρ x,optA ρ lo,optA ρ hi,optA ρ mx with|some v,some l,some h,some m=>sliA E t v l h m|_,_,_,_=>none)
 | .fieldAddr t x f=>(match ρ x with|some v=>fldA E t v f|none=>none)
 | .field t x f=>(match ρ x with|some v=>oL E t v f|none=>none)
 | .indexAddr t x i=>(match ρ x,ρ i with|some a,some b=>idxB E t a b|_,_=>none)
 | .index t x i=>(match ρ x,ρ i with|some a,some b=>lj E t a b|_,_=>none)
 | .lookup t x i cok=>(match ρ x,ρ i with|some a,some b=>gi E A t a b cok|_,_=>none)
 | .load t a=>(match ρ a with|some v=>vG E A t v|none=>none)
 | .extract t i=>(match ρ t with|some (.tuple ⟨vs⟩)=>nth vs i|_=>none)
 | .typeAssert x _ t cok=>(match ρ x with|some v=>qw E v t cok|none=>none)
 | .call c=>(match c.callee with| .builtin b=>jX E A ρ b c ty|_=>none)
 |_=>none
theorem ki{a :Type}{l:Array a}{x: a}{r:List a}(h:l.toList=x::r):l[0]? =some x:=by rw[<-Iz,h];rfl
theorem u1(N:E.Ok)(R:Rel E.P σ A w)(g:OpR σ ρ ρ'){b:Builtin}{c:Call}{cs:Array Bool}
 (h:jX E A ρ b c ty=some v):∃ v',(builtin b c.argTypes ty cs (c.args.map ρ')).run E.P w=.ok (.value v') w/\VR σ v v':=by
 unfold jX at h;split at h;split at h;rename_i x r t ts I Q;split at h;rename_i u s;have S:(c.args.map ρ')[0]? =some (ρ' x):=by rw[Array.getElem?_map,ki I];rfl
 obtain⟨C,z⟩:=len_ok N R (ty:=ty) (g x u s) h (ki Q) S;exact⟨v,by simp[builtin,C],bI z σ⟩;cases h;cases h;split at h;rename_i vs l;cases p:vs.all scal;rw[p]at h;simp at h;rw[p]at h;simp only[C']at h;obtain⟨C,z⟩:=eW (σ:=σ) h w;have e:c.args.map ρ'=⟨vs⟩:=by apply Hv.1;rw[I6];exact jd p (dV g l)
 exact⟨v,by simp[builtin,e,C],z⟩;cases h;split at h;rename_i vs l;cases p:vs.all scal;rw[p]at h;simp at h;rw[p]at h;simp only[C']at h;obtain⟨C,z⟩:=eW (σ:=σ) h w;have e:c.args.map ρ'=⟨vs⟩:=by apply Hv.1;rw[I6];exact jd p (dV g l)
 exact⟨v,by simp[builtin,e,C],z⟩;cases h;split at h;rename_i x I;have e:c.args.map ρ'= #[ρ' x]:=by apply Hv.1;rw[I6,I];rfl
 split at h;rename_i n k s;cases h;have q:=g x _ s;generalize ρ' x=y at e q;cases q;exact⟨_,by simp[builtin,e,Lib.run_unsafeSliceData_nil],.ptr0⟩;rename_i B i n k s;simp only[cond_eq_ite,HR,GL]at h;split at h;cases h;rename_i f;cases h;have q:=g x _ s;have H:∃ b d M D,σ B=some (b,d,M)/\ρ' x=.slice (some ⟨b,d+i,none⟩) n D/\D≠0:=by
  generalize ρ' x=y at q;cases q with
  |slice _ _ _ a K=>exact⟨_,_,_,_,a,rfl,λe=>f (.inr e)⟩
  |sliceU _ a K=>exact⟨_,_,_,_,a,rfl,λe=>f (.inl (by omega))⟩
  |sliceV _ _ _ a K=>exact⟨_,_,_,_,a,rfl,λe=>f (.inl (by omega))⟩
  |sliceE=>exact absurd (.inl rfl) f
  |gs0=>exact absurd (.inl rfl) f
  |gs lo U V X m a K hc Y Z=>exact⟨_,_,_,_,a,rfl,λe=>f (.inl (by omega))⟩
 obtain⟨b,d,M,D,a,O,J⟩:=H;rw[O]at e;refine⟨_,?_,.ptr i a⟩;simp only[builtin,e,GN,Lib.run_unsafeSliceData_row w _ _ _ _ _ J,GJ];rfl;cases h;cases h;cases h
theorem n9(H:E.Ok)(R:Rel E.P σ A w)(k:OpR σ ρ ρ')
 (h:bj E A ρ o.type o.op=some v):∃ v',(execOp ρ' o).run E.P w=.ok (.value v') w/\VR σ v v':=by
 unfold bj at h;unfold execOp;split at h;rename_i x g;rw[g];exact⟨_,rfl,k x v h⟩;rename_i x g;rw[g];exact⟨_,rfl,k x v h⟩;rename_i c a b g;rw[g];split at h;rename_i t ht;have hc:=k c _ ht;have e:ρ' c=.bool t:=by generalize ρ' c=y at hc;cases hc;rfl
 split at h;exact⟨ρ' a,by simp[e,asBool],k a v h⟩;exact⟨ρ' b,by simp[e,asBool],k b v h⟩;cases h;rename_i x g;rw[g];split at h;rename_i u C;cases Q:nnil u;rw[Q]at h;simp at h;rw[Q]at h;simp only[C',osI]at h;subst h;have J:=k x _ C;refine⟨ρ' x,?_,J⟩;simp only;generalize ρ' x=x' at J;cases J<;>first|rfl|(simp[nnil]at Q;done)|skip
 rename_i O _ _ _ _ hf J hy;cases O<;>first|rfl|(simp[nnil]at Q)
 cases h;rename_i t D g;rw[g];split at h;rename_i ps U;have hp:PRs σ ps (D.map λp=>(p.1,ρ' p.2)).toList:=by rw[I6];exact mA k U
 obtain⟨v',r,z⟩:=zZ H hp h w;exact⟨v',by simp only[GN];rw[show(D.map λ(x:Nat×Operand)=>match x with|(i,x)=>(i,ρ' x))=(D.map λp=>(p.1,ρ' p.2))from rfl,r];rfl,z⟩;cases h;rename_i op t x y yt g;rw[g];split at h;rename_i a b K I;obtain⟨v',r,z⟩:=bin_ok H (k x a K) (k y b I) h w;exact⟨v',by simp only[GN]at r ⊢;rw[r];rfl,z⟩;cases h;rename_i op S x g;rw[g];split at h;rename_i b I;split at h;cases h;have J:=k x _ I;have e:ρ' x=.bool b:=by generalize ρ' x=y at J;cases J;rfl
 exact⟨.bool (!b),by simp[e,Op.unary],.bool _⟩;cases h;rename_i a a0 K;cases N:scal a;rw[N]at h;simp at h;rw[N]at h;simp only[C']at h;obtain⟨h1,h2⟩:=eW (σ:=σ) h w;have e:=mf N (k x a K);exact⟨v,by simp[e,h1],h2⟩;cases h;rename_i s d x g;rw[g];split at h;rename_i u C;obtain⟨v',r,z⟩:=FK H R (k x u C) h;exact⟨v',by simp[r],z⟩;cases h;rename_i t x g;rw[g];split at h;cases h;rename_i d u V C hd;cases h;refine⟨.iface t (ρ' x),?_,.iface t (k x u hd)⟩;simp only[GN,Instr.makeInterface,af H C,GJ];cases d<;>first|rfl|exact absurd rfl (λe=>V _ e)
 cases h;rename_i O first q g
 rw[g];cases N:Fn.still O;rw[N]at h;simp at h;rw[N]at h;simp only[C']at h;split at h;rename_i a b K I;cases h;refine⟨.func O ⟨first.toList.map ρ'⟩ ⟨q.toList.map ρ'⟩,?_,.func O N (dV k K) (dV k I)⟩;have e1:(⟨first.toList.map ρ'⟩:Array Value)=first.map ρ':=by apply Hv.1;simp
 have e2:(⟨q.toList.map ρ'⟩:Array Value)=q.map ρ':=by apply Hv.1;simp
 rw[e1,e2];rfl;cases h;rename_i t x lo hi mx g;rw[g];split at h;rename_i u l hh m C hl X hm;obtain⟨v',r,z⟩:=sli_ok H (k x u C) h w;refine⟨v',?_,z⟩;simp only[iV k hl,iV k X,iV k hm,GN,r];rfl;cases h;rename_i t x f g;rw[g];split at h;rename_i u C;obtain⟨v',r,z⟩:=fld_ok H (k x u C) h w;exact⟨v',by simp[r],z⟩;cases h;rename_i t x f g;rw[g];split at h;rename_i u C;obtain⟨v',r,z⟩:=zI H (k x u C) h w;exact⟨v',by simp[r],z⟩;cases h;rename_i t x i g;rw[g];split at h;rename_i a b K I;obtain⟨v',r,z⟩:=Ey H (k x a K) (k i b I) h w;exact⟨v',by simp[r],z⟩;cases h;rename_i t x i g;rw[g];split at h;rename_i a b K I;obtain⟨v',r,z⟩:=zt H (k x a K) (k i b I) h w;exact⟨v',by simp[r],z⟩;cases h;rename_i t x i Z g;rw[g];split at h;rename_i a b K I;obtain⟨v',r,z⟩:=vD H R (k x a K) (k i b I) h;exact⟨v',by simp[r],z⟩;cases h;rename_i t a g;rw[g];split at h;rename_i u C;obtain⟨v',r,z⟩:=zh H R (k a u C) h;exact⟨v',by simp[r],z⟩;cases h;rename_i t i g;rw[g];split at h;rename_i vs C;have J:∃ vs',ρ' t=.tuple ⟨vs'⟩/\VRs σ vs vs':=by
  have J:=k t _ C;generalize ρ' t=x' at J;cases J with
  |tuple M=>exact⟨_,rfl,M⟩
 obtain⟨vs',ex,M⟩:=J;rw[aN]at h;obtain⟨v',r,z⟩:=M.get h;have Y:(⟨vs'⟩:Array Value)[i]? =some v':=by simpa using r
 exact⟨v',by simp[Instr.extract,ex,Y],z⟩;cases h;rename_i x S t Z g;rw[g];split at h;rename_i u C;obtain⟨v',r,z⟩:=xJ H (xt:=S) (k x u C) h w;exact⟨v',by simp[r],z⟩;cases h;rename_i c g;rw[g];split at h;rename_i b I;obtain⟨v',r,z⟩:=u1 H R k (cs:=c.args.map fun| .const _=>true|_=>false) h;exact⟨v',by simp only[resolve,I,GN,HB,GJ,invoke];exact r,z⟩;cases h;cases h
def quiet(E:Env)(A:AH)(ρ:Operand->Lj)(ty:TypeId)(op:Op):Lj:=
 match E.sym with
 |false=>bj E A ρ ty op
 |true=>(match symQ E ρ op with|some v=>some v|none=>(match groQ E A ρ op with|some v=>some v|none=>(match arrQ E A ρ op with|some v=>some v|none=>bj E A ρ ty op)))
theorem qW(f:E.Ok)(R:Rel E.P σ A w)(a:OpR σ ρ ρ')
 (h:quiet E A ρ o.type o.op=some v):∃ v',(execOp ρ' o).run E.P w=.ok (.value v') w/\VR σ v v':=by unfold quiet at h;split at h;exact n9 f R a h;split at h;rename_i u g;cases h;exact Cd f R a g;split at h;rename_i u g;cases h;exact ET f R a g;split at h;rename_i u g;cases h;exact Gg f R a g;exact n9 f R a h
def rep(z:Lh):Nat->Lh
 |0=>[]
 |n+1=>z++rep z n
theorem dI(z:Lh):∀ n,(rep z n).length=n*z.length
 |0=>by simp[rep]
 |n+1=>by simp[rep,dI z n,Ib];omega
theorem jU{z:Lh}(h:z.all scal=true):∀ n,(rep z n).all scal=true
 |0=>rfl
 |n+1=>by simp only[rep,List.all_append,h,jU h n];rfl
theorem mh(z:Lh)(f:0<z.length):∀ (n i:Nat),i<n*z.length->(rep z n)[i]? =z[i%z.length]?
 |0,i,h=>by simp at h
 |n+1,i,h=>by simp only[rep,G0];by_cases a:i<z.length;rw[Gw a,IR a];rw[D' a,mh z f n (i-z.length) (by rw[Ib]at h;omega)];congr 1;rw[Nat.mod_eq_sub_mod (Jj a)]
theorem gC(z:Array Value)(n:Nat)(a:0<z.size∨n=0):(Array.range (n*z.size)).map (λi=>z[i%z.size]!)=⟨rep z.toList n⟩:=by rcases a with a|rfl;apply Hv.1;apply II;intro i;by_cases g:i<n*z.size;have h:i%z.size<z.size:=IN _ a;have:=mh z.toList (by simpa using a) n i (by simpa using g);simp only[Ii]at this;rw[this];simp[g,h];have f:=dI z.toList n;simp only[Ii]at f;rw[Hw (by simp;omega),Hw (by simp only[f];omega)];simp[rep]
def bX (E :Env)(ρ:Operand->Lj)(op:Op):Option (AObj×(Nat->Value)):=
 match op with
 | .alloc e=>(match E.ti e with
   | some i=>(match i.zero with
     |some z=>let cs:=z.cells.toList;bif cs.all scal then some (.cells cs e,λid=>.pointer (some ⟨id,0,none⟩))else none
     |none=>none)
   |none=>none)
 | .box e x=>(match ρ x with|some v=>some (.cells v.cells.toList e,λid=>.pointer (some ⟨id,0,none⟩))|none=>none)
 | .buildSlice t len parts=>(match und E t,jZ ρ parts.toList with
   | some (.slice e),some ps=>(match E.ti e with
     | some ie=>(match ie.zero with
       | some z=>let cs:=z.cells.toList
         bif cs.all scal&&(Nat.beq cs.length ie.size&&(Nat.blt 0 ie.size&&Nat.ble (len*ie.size) 16777216))then
          (match qg (λi=>some (i*ie.size,ie.size)) (rep cs len) ps with
          |some r=>some (.cells r e,λid=>.slice (some ⟨id,0,none⟩) len len)
          |none=>none)else none
       |none=>none)
     |none=>none)
   |_,_=>none)
 | .makeSlice t l c=>(match und E t,ρ l,ρ c with
   | some (.slice e),some (.int _ l),some (.int _ c)=>(match E.ti e with
     | some ie=>(match ie.zero with
       | some z=>let cs:=z.cells.toList
         bif cs.all scal&&(Nat.beq cs.length ie.size&&(Nat.blt 0 ie.size&&(decide (0<=l)&&(decide (l<=c)&&(decide (c<=281474976710656)&&Nat.ble (ie.bytes*c.toNat) 281474976710656)))))then
          some (.cells (rep cs c.toNat) e,λid=>.slice (some ⟨id,0,none⟩) l.toNat c.toNat)else none
       |none=>none)
     |none=>none)
   |_,_,_=>none)
 | .makeMap t r=>(match r with
   |none=>some (.map [] 0,λid=>.map (some id))
   | some x=>(match und E t,ρ x with
     |some (.map _ _),some (.int _ _)=>some (.map [] 0,λid=>.map (some id))
     |_,_=>none))
 |_=>none
theorem jj{c:Lh}(h:VRs σ' c c'):OR P σ' (some (.cells ⟨c'⟩ e)) 0 0 (.cells c e):=by refine⟨⟨c'⟩,0,0,rfl,λi _ h=>by omega,λi v a=>?_,by simp,rfl⟩;obtain⟨v',g,f⟩:=h.get a;exact⟨v',by simpa using g,f⟩
theorem nA(J:E.Ok)(C:OpR σ ρ ρ'){ob:AObj}{fv:Nat->Value}(h:bX E ρ o.op=some (ob,fv)):
 ∃ (N:Obj) (U:Nat->Value),(∀w:World,(execOp ρ' o).run E.P w=.ok (.value (U w.heap.size)) {w with heap:=w.heap.push N})/\
   (∀σ':Sig,σ.sub σ'->OR E.P σ' (some N) 0 0 ob)/\(∀(σ':Sig) (id b c:Nat),σ' id=some (b,0,c)->VR σ' (fv id) (U b))/\ob.own=true:=by
 unfold bX at h;unfold execOp;split at h;rename_i e f;rw[f];split at h;rename_i i hi;split at h;rename_i z O;cases I:z.cells.toList.all scal;simp only[I]at h;simp at h;simp only[I,C',osI,GC]at h;obtain⟨rfl,rfl⟩:=h;refine⟨.cells z.cells e,λb=>.pointer (some ⟨b,0,none⟩),λw=>?_,fun σ' _=>?_,fun σ' id b c h=>?_,rfl⟩;simp[Instr.alloc,fq J hi O,newVar,newRow];exact jj (bu I σ');have:=VR.ptr (σ:=σ') 0 h;simpa using this;cases h;cases h;rename_i e x f;rw[f];split at h;rename_i v hv;cases h;refine⟨.cells (ρ' x).cells e,λb=>.pointer (some ⟨b,0,none⟩),λw=>?_,fun σ' I=>?_,fun σ' id b c h=>?_,rfl⟩;simp[Instr.box,newVar,newRow];exact jj ((C x v hv).mono I).cells;have:=VR.ptr (σ:=σ') 0 h;simpa using this;cases h;rename_i t a s f;rw[f];split at h;rename_i e ps Q Y;split at h;rename_i q u;split at h;rename_i z O;simp only at h;cases K:(z.cells.toList.all scal&&(Nat.beq z.cells.toList.length q.size&&(Nat.blt 0 q.size&&Nat.ble (a*q.size) 16777216)));rw[K]at h;simp at h;rw[K]at h;simp only[C']at h;simp only[f',GO,blt_eq,GQ]at K;obtain⟨Z,M,h3,h4⟩:=K;have M:z.cells.size=q.size:=by have:=Gy M;simpa using this
 split at h;rename_i r hr;cases h;have hp:PRs σ ps (s.map λp=>(p.1,ρ' p.2)).toList:=by rw[I6];exact mA C Y
 obtain⟨r',g1,g2⟩:=nh hp (bu (jU Z a) σ) hr;have D:=gC z.cells a (.inl (by omega));rw[M]at D;refine⟨.cells ⟨r'⟩ e,λb=>.slice (some ⟨b,0,none⟩) a a,λw=>?_,fun σ' I=>?_,fun σ' id b c h=>?_,rfl⟩;have X:¬ (a*q.size>2 ^ 24):=by simp;omega
 simp only[GN,Instr.buildSlice,af J Q,GJ,aD J u,Sem.run_ite];rw[D' X];have R:(s.map λ(x:Nat×Operand)=>match x with|(i,x)=>(i,ρ' x))=(s.map λp=>(p.1,ρ' p.2)):=rfl;by_cases H:a*q.size=0;have S:a=0:=by rcases Nat.mul_eq_zero.1 H with h|h<;>omega
 subst S;have e0:(Array.range 0).map (λi=>(#[]:Array Value)[i%(#[]:Array Value).size]!)=⟨[]⟩:=by apply Hv.1;simp
 simp only[rep]at g1;simp only[Nat.zero_mul,Ie,HB,GJ,R,e0,g1];simp[newRow];simp only[H,HV,GN,fq J u O,GJ,HB,M,D,R,g1];simp[newRow];exact jj (g2.mono I);have:=VR.slice (σ:=σ') 0 a a h (by have:a<=a*q.size:=Nat.le_mul_of_pos_right _ h3;simp[unk];omega);simpa using this;cases h;cases h;cases h;cases h;rename_i t l c f;rw[f];split at h;rename_i e k1 l0 k2 g Q S hc;split at h;rename_i q u;split at h;rename_i z O;simp only at h;cases K:(z.cells.toList.all scal&&(Nat.beq z.cells.toList.length q.size&&(Nat.blt 0 q.size&&(decide (0<=l0)&&(decide (l0<=g)&&(decide (g<=281474976710656)&&Nat.ble (q.bytes*g.toNat) 281474976710656))))));rw[K]at h;simp at h;rw[K]at h;simp only[C',osI,GC]at h;obtain⟨rfl,rfl⟩:=h;simp only[f',GO,blt_eq,GQ]at K;obtain⟨Z,M,h3,h4,h5,h6,h7⟩:=K;have M:z.cells.size=q.size:=by have:=Gy M;simpa using this
 have el:ρ' l=.int k1 l0:=by have:=C l _ S;generalize ρ' l=x at this;cases this;rfl
 have ec:ρ' c=.int k2 g:=by have:=C c _ hc;generalize ρ' c=x at this;cases this;rfl
 have D:=gC z.cells g.toNat (.inl (by omega));rw[M]at D;have wl:IntKind.i64.wrap l0=l0:=cN (by simp[fJ];omega);have wc:IntKind.i64.wrap g=g:=cN (by simp[fJ];omega);refine⟨.cells ⟨rep z.cells.toList g.toNat⟩ e,λb=>.slice (some ⟨b,0,none⟩) l0.toNat g.toNat,λw=>?_,fun σ' I=>?_,fun σ' id b c h=>?_,rfl⟩;have t1:¬ (g<0):=by omega
 have a1:(q.bytes:Int)*g<=281474976710656:=by have:((q.bytes*g.toNat:Nat):Int)<=281474976710656:=Int.ofNat_le.2 h7;rw[Int.natCast_mul,Int.toNat_of_nonneg (by omega)]at this;exact this
 have a0:(2:Int) ^ 48=281474976710656:=by decide
 have t2:¬ ((q.bytes:Int)*g>2 ^ 48):=by rw[a0];omega
 have t3:¬ (l0<0):=by omega
 have t4:¬ (l0>g):=by omega
 simp only[el,ec,GN,Instr.makeSlice,af J Q,GJ,asInt,asIntOf,HB,uG J u,wl,wc,t1,t2,t3,t4,It,Bool.or_false,HO,HV,run_askRoom,aD J u];by_cases H:g.toNat*q.size=0;have S:g.toNat=0:=by rcases Nat.mul_eq_zero.1 H with h|h<;>omega
 have e0:(Array.range 0).map (λi=>(#[]:Array Value)[i%(#[]:Array Value).size]!)=⟨[]⟩:=by apply Hv.1;simp
 simp only[S,Nat.zero_mul,Ie,HB,GJ,rep,e0];have e1:(Array.range 0).map (λ_=>(default:Value))=(⟨[]⟩:Array Value):=by apply Hv.1;simp
 simp[newRow,e1];simp only[H,HV,fq J u O,GN,GJ,HB,M,D];simp[newRow];exact jj (bu (jU Z _) σ');have:=VR.slice (σ:=σ') 0 l0.toNat g.toNat h (by simp[unk];omega);simpa using this;cases h;cases h;cases h;rename_i t r f;rw[f];have V:∀ σ':Sig,OR E.P σ' (some (.map #[] 0)) 0 0 (.map [] 0):=fun σ'=>⟨#[],rfl,.nil⟩;split at h;cases h;refine⟨.map #[] 0,λb=>.map (some b),λw=>?_,fun σ' I=>V σ',fun σ' id b c h=>.map h,rfl⟩;simp[Instr.makeMap];rename_i x;split at h;rename_i kt et k n Q hx;cases h;have ex:ρ' x=.int k n:=by have:=C x _ hx;generalize ρ' x=y at this;cases this;rfl
 refine⟨.map #[] 0,λb=>.map (some b),λw=>?_,fun σ' I=>V σ',fun σ' id b c h=>.map h,rfl⟩;simp[Instr.makeMap,ex,af J Q,asInt,asIntOf];cases h;cases h
abbrev _root_.Go.H0:=@List.size_toArray
abbrev _root_.Go.IB:=@List.take_append_of_le_length
abbrev _root_.Go.I9:=@List.take_append_drop
abbrev _root_.Go.GG:=@List.append_nil
abbrev _root_.Go.H6:=@List.mem_or_eq_of_mem_set
abbrev _root_.Go.JQ:=@List.set_append_left
abbrev _root_.Go.Hc:=@List.all_eq_true
abbrev _root_.Go.GA:=@List.mem_map
abbrev _root_.Go.Jq:=@Nat.mul_one
def FU:Nat:=40
def fx(A:AH)(B o:Nat)(vs:Lh):Option AH:=
 match A.t.get B with
 | some (.cells c e)=>
   bif vs.all cellv&&(Nat.blt 0 vs.length&&Nat.ble (o+vs.length) c.length)then(match T.set FU A.t B (.cells (over c o vs) e)with|some t=>some ⟨t,A.next⟩|none=>none)else none
 |_=>none
theorem qX(R:Rel P σ A w){o:Nat}(D:VRs σ vs vs')(h:fx A B o vs=some A')(k:σ B=some (b,d,c)):
 ∃w',(storeCells ⟨b,d+o,none⟩ vs').run P w=.ok () w'/\Rel P σ A' w'/\Ext σ A w σ A' w':=by
 unfold fx at h;split at h;rename_i J e H;cases C:(vs.all cellv&&(Nat.blt 0 vs.length&&Nat.ble (o+vs.length) J.length));rw[C]at h;simp at h;rw[C]at h;simp only[C']at h;simp only[f',GO,blt_eq,GQ]at C;obtain⟨h1,h2,h3⟩:=C;split at h;rename_i t Q;cases h;obtain⟨b',d',c',f,q,lo,U,g1,V,I,g4,g5⟩:=R.obj B _ H rfl;rw[k]at f;cases f;have S:=D.length;have l:d+o+vs'.length<=q.size:=by
  have p:o+vs.length-1<J.length:=by omega
  obtain⟨v',g,_⟩:=I (o+vs.length-1) J[o+vs.length-1] (by simp[p]);have:d+(o+vs.length-1)<q.size:=by rcases Hg (d+(o+vs.length-1)) q.size with h|h;exact h;rw[He h]at g;cases g
  omega
 obtain⟨w',r1,M,K,r4,Z,Y,X,r8⟩:=cO (P:=P) vs' 0 w b (d+o) q e lo U g1 (by omega) V (D.cellv h1);refine⟨w',r1,?_,Ext.upd H rfl k Q M K Z Y X⟩;refine R.upd H rfl k Q rfl M K ?_;rw[r4];have r:d+o+vs'.length<=q.toList.length:=by simpa using l
 refine⟨_,lo,U,rfl,λi s=>V i (by rw[H0,bm (by simpa using l)]at s;simpa using s),λi v a=>?_,?_,g5⟩;rw[b7 h3]at a;have u:(over q.toList (d+o+0) vs').toArray[d+i]? =(over q.toList (d+o) vs')[d+i]?:=by simp
 rw[u,b7 r];by_cases O:i<o;rw[Gw O]at a;rw[Gw (by omega)];obtain⟨v',g,z⟩:=I i v a;exact⟨v',by simpa using g,z⟩;rw[D' O]at a;rw[D' (by omega)];by_cases N:i<o+vs.length;rw[Gw N]at a;rw[Gw (by omega)];obtain⟨v',g,z⟩:=D.get a;exact⟨v',by rw[<-g];congr 1;omega,z⟩;rw[D' N]at a;rw[D' (by omega)];obtain⟨v',g,z⟩:=I i v a;exact⟨v',by simpa using g,z⟩;rw[H0,bm (by simpa using l)];simpa using g4;cases h;cases h
theorem rb{a u r:Lh}(h:j+vs.length<=u.length):over (a++u++r) (a.length+j) vs=a++over u j vs++r:=by
 unfold over;have g:(a++u++r).take (a.length+j)=a++u.take j:=by rw[HT,List.take_length_add_append,IB (by omega)]
 have f:(a++u++r).drop (a.length+j+vs.length)=u.drop (j+vs.length)++r:=by rw[HT,Hs,List.drop_length_add_append,List.drop_append_of_le_length h]
 rw[g,f];simp[HT]
theorem tX{u a:Value}(h:∀ x∈els,x.cells.size=sz)(k:els[i]? =some u)(r:j+vs.length<=sz)(s:a.cells.toList=over u.cells.toList j vs):
 am (els.set i a)=over (am els) (i*sz+j) vs:=by
 have l:i<els.length:=(GE.1 k).1;have g:els[i]=u:=(GE.1 k).2;have f:u.cells.toList.length=sz:=by simpa using h u (GM k)
 have D:els=els.take i++u::els.drop (i+1):=by rw[<-g,<-HC l,I9]
 have C:els.set i a=els.take i++a::els.drop (i+1):=by rw[List.set_eq_take_append_cons_drop,Gw l]
 have q:(am (els.take i)).length=i*sz:=by rw[ap (λx p=>h x (H5 p))];simp;rw[Nat.min_eq_left (by omega)]
 rw[C,bz,aV,s,<-HT];have z:am els=am (els.take i)++u.cells.toList++am (els.drop (i+1)):=by
  conv=>lhs;rw[D]
  rw[bz,aV,HT]
 rw[z,<-q,rb (by rw[f];exact r)]
theorem wy(R:Rel P σ A w){f off:Nat}{els2:Lh}{t:T AObj}(H:A.t.get B=some (.gro els tl e))(h:σ B=some (b,d,c))(C:VRs σ vs vs')(I:vs.all cellv=true)
 (l:off+vs.length<=(am (els++tl)).length) (he:am els2=over (am (els++tl)) off vs) (D:∀ x∈els2,x.cells.size=P.cellsOf e) (p:els2.length=(els++tl).length) (O:T.set f A.t B (.gro els2 [] e)=some t):
 ∃w',(storeCells ⟨b,d+off,none⟩ vs').run P w=.ok () w'/\Rel P σ ⟨t,A.next⟩ w'/\Ext σ A w σ ⟨t,A.next⟩ w':=by
 obtain⟨z,lo,S,g1,X,V,g4,g5,U⟩:=R.at H rfl h;have hl:=C.length;have a0:=ap g4;have Q:(els++tl).length*P.cellsOf e<=c*P.cellsOf e:=Hr _ U;have g:d+off+vs'.length<=z.size:=by omega
 obtain⟨w',r1,K,J,r4,r5,Z,Y,r8⟩:=cO (P:=P) vs' 0 w b (d+off) z e lo S g1 (by omega) X (C.cellv I);refine⟨w',r1,?_,Ext.upd H rfl h O K J r5 Z Y⟩;refine R.upd H rfl h O rfl K J ?_;rw[r4];have k:d+off+vs'.length<=z.toList.length:=by simpa using g
 refine⟨_,lo,S,rfl,λi q=>X i (by rw[H0,bm (by simpa using g)]at q;simpa using q),λi v a=>?_,by rw[GG];exact D,?_,by rw[GG,p];exact U⟩;rw[GG,he,b7 l]at a;have r:(over z.toList (d+off+0) vs').toArray[d+i]? =(over z.toList (d+off) vs')[d+i]?:=by simp
 rw[r,b7 k];by_cases N:i<off;rw[Gw N]at a;rw[Gw (by omega)];obtain⟨v',u,s⟩:=V i v a;exact⟨v',by simpa using u,s⟩;rw[D' N]at a;rw[D' (by omega)];by_cases M:i<off+vs.length;rw[Gw M]at a;rw[Gw (by omega)];obtain⟨v',u,s⟩:=C.get a;exact⟨v',by rw[<-u];congr 1;omega,s⟩;rw[D' M]at a;rw[D' (by omega)];obtain⟨v',u,s⟩:=V i v a;exact⟨v',by simpa using u,s⟩;rw[H0,bm (by simpa using g)];simpa using g5
def nS(u v:Value)(sz j:Nat):Value:=bif Nat.beq v.cells.toList.length sz then v else .agg ⟨over u.cells.toList j v.cells.toList⟩
theorem pt{u:Value}(g:u.cells.size=sz)(k:j+v.cells.toList.length<=sz):(nS u v sz j).cells.toList=over u.cells.toList j v.cells.toList:=by
 have a:u.cells.toList.length=sz:=by simpa using g
 unfold nS;cases f:Nat.beq v.cells.toList.length sz with
 | true=>
  have f:=Gy f;have h:j=0:=by omega
  subst h;simp only[C'];unfold over;rw[H8,f,<-a,List.drop_length];simp
 |false=>rfl
def dX(E:Env)(A:AH)(t:TypeId)(B sz i j:Nat)(v:Value):Option AH:=
 match E.ti t,A.t.get B with
 | some ti,some (.gro els tl e)=>(match E.ti e,nth (glue els tl) i with
   | some ie,some u=>bif (Nat.beq ie.size sz&&Nat.beq v.cells.toList.length ti.size)&&(v.cells.toList.all cellv&&Nat.ble (j+v.cells.toList.length) sz)then
    (match T.set FU A.t B (.gro ((glue els tl).set i (nS u v sz j)) [] e)with|some t=>some ⟨t,A.next⟩|none=>none)else none
   |_,_=>none)
 |_,_=>none
theorem pY(O:E.Ok)(R:Rel E.P σ A w)(g:σ B=some (b,d,c))(Q:VR σ v v')(h:dX E A t B sz i j v=some A'):
 ∃w',(Instr.storeAt t (.pointer (some ⟨b,d+i*sz+j,none⟩)) v').run E.P w=.ok () w'/\Rel E.P σ A' w'/\Ext σ A w σ A' w':=by
 unfold dX at h;split at h;rename_i M els tl e D S;rw[cb]at h;split at h;rename_i f u J s;rw[aN]at s;cases z:((Nat.beq f.size sz&&Nat.beq v.cells.toList.length M.size)&&(v.cells.toList.all cellv&&Nat.ble (j+v.cells.toList.length) sz));rw[z]at h;simp at h;rw[z]at h;simp only[C']at h;simp only[f',GO,GL]at z;obtain⟨⟨rfl,Z⟩,K,H⟩:=z;split at h;rename_i t2 X;cases h;have q:E.P.cellsOf e=f.size:=by simp[Program.cellsOf,O.ti _ _ J]
 obtain⟨ca,lo,hi,g1,g2,g3,r,g5,g6⟩:=R.at S rfl g;rw[q]at r;have a:=r u (GM s);have I:i<(els++tl).length:=(GE.1 s).1;have l:=pt a H;have k:=tX r s H l;have a0:=ap r;have p:(i+1)*f.size<=(els++tl).length*f.size:=Hr _ I;rw[Ji]at p;obtain⟨w',N,V,U⟩:=wy R S g Q.cells K (by omega) k (λx C=>by
  rw[q];rcases H6 C with C|rfl;exact r x C;have:(nS u v f.size j).cells.toList.length=f.size:=by rw[l,bm (by simpa[a]using H)];simpa using a
  simpa using this) (by simp) X
 refine⟨w',?_,V,U⟩;have hl:=Q.cells.length;have Y:v'.cells.size=M.size:=by simp at hl Z;omega
 rw[<-Hs]at N;simp[Instr.storeAt,Instr.sureAddr,storeVar,aD O D,Y,N];cases h;cases h;cases h
theorem xM(R:Rel P σ A w){f off:Nat}{rest els2 g:Lh}{t:T AObj}(J:A.t.get B=some (.arr els rest n e))(p:σ B=some (b,d,c))(I:VRs σ vs vs')(K:vs.all cellv=true)
 (h0:0<vs.length) (u:off+vs.length<=(els++rest).length) (he:els2++g=over (els++rest) off vs) (z:els2.length=n) (U:T.set f A.t B (.arr els2 g n e)=some t):
 ∃w',(storeCells ⟨b,d+off,none⟩ vs').run P w=.ok () w'/\Rel P σ ⟨t,A.next⟩ w'/\Ext σ A w σ ⟨t,A.next⟩ w':=by
 obtain⟨⟨r,lo,V,g1,X,M,g4,g5⟩,g6⟩:=R.at J rfl p;have hl:=I.length;have k:d+off+vs'.length<=r.size:=by
  have q:off+vs.length-1<(els++rest).length:=by omega
  obtain⟨v',l,_⟩:=M (off+vs.length-1) (els++rest)[off+vs.length-1] (E' q);have:d+(off+vs.length-1)<r.size:=by rcases Hg (d+(off+vs.length-1)) r.size with h|h;exact h;rw[He h]at l;cases l
  omega
 obtain⟨w',r1,O,N,r4,r5,Z,Y,r8⟩:=cO (P:=P) vs' 0 w b (d+off) r e lo V g1 (by omega) X (I.cellv K);refine⟨w',r1,?_,Ext.upd J rfl p U O N r5 Z Y⟩;refine R.upd J rfl p U rfl O N ?_;rw[r4];have s:d+off+vs'.length<=r.toList.length:=by simpa using k
 refine⟨⟨_,lo,V,rfl,λi C=>X i (by rw[H0,bm (by simpa using k)]at C;simpa using C),λi v a=>?_,by rw[H0,bm (by simpa using k)];simpa using g4,g5⟩,z⟩;rw[he,b7 u]at a;have D:(over r.toList (d+off+0) vs').toArray[d+i]? =(over r.toList (d+off) vs')[d+i]?:=by simp
 rw[D,b7 s];by_cases S:i<off;rw[Gw S]at a;rw[Gw (by omega)];obtain⟨v',l,H⟩:=M i v a;exact⟨v',by simpa using l,H⟩;rw[D' S]at a;rw[D' (by omega)];by_cases Q:i<off+vs.length;rw[Gw Q]at a;rw[Gw (by omega)];obtain⟨v',l,H⟩:=I.get a;exact⟨v',by rw[<-l];congr 1;omega,H⟩;rw[D' Q]at a;rw[D' (by omega)];obtain⟨v',l,H⟩:=M i v a;exact⟨v',by simpa using l,H⟩
def jx (E:Env)(A:AH)(t:TypeId)(a v:Value):Option AH:=
 match a with
 | .pointer (some ⟨B,o,none⟩)=>(match A.t.get B with
   | some (.arr els rest n e)=>(match E.ti t with
     | some ti=>(match Nat.ble n o with
       | true=>bif (Nat.beq v.cells.toList.length ti.size&&v.cells.toList.all cellv)&&(Nat.blt 0 v.cells.toList.length&&Nat.ble (o-n+v.cells.toList.length) rest.length)then
        (match T.set FU A.t B (.arr els (over rest (o-n) v.cells.toList) n e)with|some t=>some ⟨t,A.next⟩|none=>none)else none
       | false=>bif (Nat.beq v.cells.toList.length ti.size&&v.cells.toList.all cellv)&&(Nat.beq o 0&&Nat.beq v.cells.toList.length n)then
        (match T.set FU A.t B (.arr v.cells.toList rest n e)with|some t=>some ⟨t,A.next⟩|none=>none)else none)
     |none=>none)
   |_=>none)
 | .func (.yield sz) ⟨[.pointer (some ⟨B,0,none⟩)]⟩ ⟨[.int .i64 i,.int .i64 j,.bool true]⟩=>(match A.t.get B with
   | some (.arr els rest n e)=>(match E.ti t,v.cells.toList with
     | some ti,[x]=>bif (Nat.beq sz 1&&Nat.beq j.toNat 0)&&((Nat.beq ti.size 1&&cellv x)&&Nat.blt i.toNat n)then
      (match T.set FU A.t B (.arr (els.set i.toNat x) rest n e)with|some t=>some ⟨t,A.next⟩|none=>none)else none
     |_,_=>none)
   | some (.cells c e)=>(match E.ti t with
     |some ti=>bif (Nat.beq sz 1&&Nat.beq j.toNat 0)&&(Nat.beq ti.size 1&&Nat.beq v.cells.toList.length 1)then fx A B i.toNat v.cells.toList else none
     |none=>none)
   |_=>none)
 |_=>none
theorem yE{c:Lh}(h:i<c.length):over c i [x]=c.set i x:=by unfold over;rw[List.set_eq_take_append_cons_drop,Gw h];simp
theorem qx(Z:E.Ok)(R:Rel E.P σ A w){a:Value}(ha:VR σ a a')(X:VR σ v v')(h:jx E A t a v=some A'):
 ∃w',(Instr.storeAt t a' v').run E.P w=.ok () w'/\Rel E.P σ A' w'/\Ext σ A w σ A' w':=by
 have C:=X.cells.length;unfold jx at h;split at h;rename_i B o;cases ha with
 | @ptr _ b d c o' hσ=>
  split at h;rename_i els g n e K;have H:=R.at K rfl hσ;obtain⟨_,k⟩:=id H;split at h;rename_i z s
  have V:∀ {p l:Lh}{Y:AH},((Nat.beq v.cells.toList.length z.size&&v.cells.toList.all cellv)=true)->0<v.cells.toList.length->o+v.cells.toList.length<=(els++g).length->p++l=over (els++g) o v.cells.toList->p.length=n->
   (match T.set FU A.t B (.arr p l n e)with|some t=>some (⟨t,A.next⟩:AH)|none=>none)=some Y->∃ w',(Instr.storeAt t (.pointer (some ⟨b,d+o,none⟩)) v').run E.P w=.ok () w'/\Rel E.P σ Y w'/\Ext σ A w σ Y w':=by
   intro p l Y h1 h0 h2 h3 h4 h5
   split at h5
   · rename_i t2 ht
     cases h5
     simp only[f',GL]at h1
     obtain⟨w',O,N,M⟩:=xM R K hσ X.cells h1.2 h0 h2 h3 h4 ht
     refine⟨w',?_,N,M⟩
     have U:v'.cells.size=z.size:=by simp at C h1;omega
     simp[Instr.storeAt,Instr.sureAddr,storeVar,aD Z s,U,O]
   · cases h5
  split at h;rename_i I;rw[GO]at I;cases f:(Nat.beq v.cells.toList.length z.size&&v.cells.toList.all cellv)&&(Nat.blt 0 v.cells.toList.length&&Nat.ble (o-n+v.cells.toList.length) g.length);rw[f]at h;simp at h;rw[f]at h;simp only[C']at h;rw[f',f' (a:=Nat.blt _ _),GO,HY]at f;obtain⟨J,a2,D⟩:=f;have:=V J a2 (by rw[Gx];omega) (by have:=rb (a:=els) (u:=g) (r:=[]) (vs:=v.cells.toList) (j:=o-n) D;rw[GG,GG,k,show n+(o-n)=o by omega]at this;exact this.symm) k h
  exact this;rename_i I;cases f:(Nat.beq v.cells.toList.length z.size&&v.cells.toList.all cellv)&&(Nat.beq o 0&&Nat.beq v.cells.toList.length n);rw[f]at h;simp at h;rw[f]at h;simp only[C']at h;rw[f',f' (a:=Nat.beq o 0),GL,GL]at f;obtain⟨J,rfl,D⟩:=f;have a3:0<n:=by rcases Nat.eq_zero_or_pos n with q|q;subst q;simp at I;exact q
  have:=V J (by omega) (by rw[Gx];omega) (by unfold over;rw[H8,D,<-k,List.drop_left];simp) D h
  exact this;cases h;cases h
 rename_i sz B i j;cases ha with
 |func fn hf=>simp[Fn.still]at hf
 | @gp _ b d c _ i j hσ=>
  simp only[Gz]at h;split at h;rename_i els g n e K;have H:=R.at K rfl hσ;obtain⟨_,k⟩:=id H;split at h;rename_i z x s hx;cases f:(Nat.beq sz 1&&Nat.beq j 0)&&((Nat.beq z.size 1&&cellv x)&&Nat.blt i n);rw[f]at h;simp at h;rw[f]at h;simp only[C']at h;simp only[f',GL,HY]at f;obtain⟨⟨rfl,rfl⟩,⟨S,a1⟩,a4⟩:=f;split at h;rename_i t2 ht;cases h;have Q:=X.cells;rw[hx]at Q C;obtain⟨w',O,N,M⟩:=xM R K hσ Q (by simp[a1]) (by simp) (off:=i) (by rw[Gx];simp;omega) (by rw[yE (by rw[Gx];omega),JQ _ _ (by omega)]) (by simpa using k) ht
  refine⟨w',?_,N,M⟩;have U:v'.cells.size=z.size:=by simp at C;omega
  have e0:d+i*1+0=d+i:=by omega
  rw[e0];simp[Instr.storeAt,Instr.sureAddr,storeVar,aD Z s,U,O];cases h;cases h;rename_i cs e K;split at h;rename_i z s;cases f:(Nat.beq sz 1&&Nat.beq j 0)&&(Nat.beq z.size 1&&Nat.beq v.cells.toList.length 1);rw[f]at h;simp at h;rw[f]at h;simp only[C']at h;simp only[f',GL]at f;obtain⟨⟨rfl,rfl⟩,S,a0⟩:=f;obtain⟨w',O,N,M⟩:=qX R X.cells h hσ;refine⟨w',?_,N,M⟩;have U:v'.cells.size=z.size:=by simp at C a0;omega
  have e0:d+i*1+0=d+i:=by omega
  rw[e0];simp[Instr.storeAt,Instr.sureAddr,storeVar,aD Z s,U,O];cases h;cases h
 cases h
def jL(E:Env)(A:AH)(t:TypeId)(a v:Value):Option AH:=
 match a with
 | .pointer (some ⟨B,o,none⟩)=>(match E.ti t with
   |some i=>let vs:=v.cells.toList;bif Nat.beq vs.length i.size then fx A B o vs else none
   |none=>none)
 | .func (.yield sz) ⟨[.pointer (some ⟨B,0,none⟩)]⟩ ⟨[.int .i64 i,.int .i64 j,.bool true]⟩=>dX E A t B sz i.toNat j.toNat v
 |_=>none
theorem uv(l:E.Ok)(R:Rel E.P σ A w){a:Value}(p:VR σ a a')(k:VR σ v v')(h:jL E A t a v=some A'):
 ∃w',(Instr.storeAt t a' v').run E.P w=.ok () w'/\Rel E.P σ A' w'/\Ext σ A w σ A' w':=by
 unfold jL at h;split at h;rename_i B o;cases p with
 | ptr H f=>
  rename_i b d c;split at h;rename_i i C;simp only at h;cases g:Nat.beq v.cells.toList.length i.size;rw[g]at h;simp at h;rw[g]at h;simp only[C']at h;have g:=Gy g;obtain⟨w',s,r,q⟩:=qX R k.cells h f;refine⟨w',?_,r,q⟩;have z:=k.cells.length;have u:v'.cells.size=i.size:=by simp at z g;omega
  simp[Instr.storeAt,Instr.sureAddr,storeVar,aD l C,u,s];cases h
 rename_i sz B i j;cases p with
 |func I D=>simp[Fn.still]at D
 | @gp _ b d c _ i j f=>simp only[Gz]at h;exact pY l R f k h
 cases h
def iQ(E:Env)(A:AH)(t:TypeId)(a v:Value):Option AH:=match jL E A t a v with|some r=>some r|none=>jx E A t a v
theorem yl(f:E.Ok)(R:Rel E.P σ A w){a:Value}(k:VR σ a a')(g:VR σ v v')(h:iQ E A t a v=some A'):
 ∃w',(Instr.storeAt t a' v').run E.P w=.ok () w'/\Rel E.P σ A' w'/\Ext σ A w σ A' w':=by unfold iQ at h;split at h;rename_i r l;cases h;exact uv f R k g l;exact qx f R k g h
def srcA(A:AH)(size:Nat)(x:Value):Option (Nat×Lh):=
 match x with
 | .slice none n k=>bif Nat.beq n 0 then some (0,[])else none
 | .slice (some ⟨B,o,none⟩) n k=>bif Nat.beq n 0 then some (0,[])else(match gj A B o (n*size)with
   |some l=>bif l.all cellv then some (n,l)else none
   |none=>none)
 | .string s=>bif Nat.beq size 1 then some (s.size,s.data.toList.map λb=>.int .u8 b.toNat)else none
 |_=>none
theorem dj{o:Nat}{l:Lh}(h:gj A B o n=some l):l.length=n:=by unfold gj at h;split at h;simp only at h;rename_i c f;cases a:Nat.beq ((c.drop o).take n).length n;rw[a]at h;simp at h;rw[a]at h;simp only[C',osI]at h;subst h;exact Gy a;cases h
theorem Av(R:Rel P σ A w){size:Nat}(q:VR σ x x')(h:srcA A size x=some (n,news)){M:TypeId}
 (z:(∃e',P.underlying M=some (.slice e'))∨P.underlying M=some .string):∃ p,VRs σ news p/\Src P size M x' n p w/\news.length=n*size/\news.all cellv=true:=by
 unfold srcA at h;split at h;rename_i K k;cases g:Nat.beq K 0;rw[g]at h;simp at h;rw[g]at h;simp only[C',osI,GC]at h;obtain⟨rfl,rfl⟩:=h;obtain rfl:=Gy g;cases q;exact⟨[],.nil,⟨z,λ_=>rfl,rfl,rfl,by simp,by simp⟩,by simp,rfl⟩;rename_i B o K k;cases g:Nat.beq K 0 with
 | true=>
  rw[g]at h;simp only[C',osI,GC]at h;obtain⟨rfl,rfl⟩:=h;obtain rfl:=Gy g;have r:∃ a' D,x'=.slice a' 0 D:=by cases q<;>exact⟨_,_,rfl⟩
  obtain⟨a',D,rfl⟩:=r;cases a' with
  |none=>exact⟨[],.nil,⟨z,λ_=>rfl,rfl,rfl,by simp,by simp⟩,by simp,rfl⟩
  |some a'=>exact⟨[],.nil,⟨z,λ_=>rfl,by simp[Builtin.firstCells,loadCells,loadCellsFrom],by simp[Builtin.firstCells,loadCells,loadCellsFrom],by simp,by simp⟩,by simp,rfl⟩
 | false=>
  rw[g]at h;simp only[GT]at h;have H:=aW g;split at h;rename_i l Q;cases I:l.all cellv;rw[I]at h;simp at h;rw[I]at h;simp only[C',osI,GC]at h;obtain⟨rfl,rfl⟩:=h;have r:∃ b d c D,σ B=some (b,d,c)/\x'=.slice (some ⟨b,d+o,none⟩) K D:=by
   cases q with
   |slice X N O f z=>exact⟨_,_,_,_,f,rfl⟩
   |sliceU N f Z=>exact⟨_,_,_,_,f,rfl⟩
   |sliceV X N O f Z=>exact⟨_,_,_,_,f,rfl⟩
   |sliceE a a' O=>exact absurd rfl H
   |gs0=>exact absurd rfl H
   |gs lo o' N O m f z I ho hm=>exact⟨_,_,_,_,f,rfl⟩
  obtain⟨b,d,c,D,f,rfl⟩:=r;obtain⟨V,S,U⟩:=cX R Q f;exact⟨V,S,⟨z,λ_=>rfl,U w rfl,U w.drew rfl,by rw[S.length,dj Q],S.cellv I⟩,dj Q,I⟩;cases h
 rename_i s;cases g:Nat.beq size 1;rw[g]at h;simp at h;rw[g]at h;simp only[C',osI,GC]at h;obtain⟨rfl,rfl⟩:=h;obtain rfl:=Gy g;cases q;have J:(s.data.toList.map λb=>Value.int .u8 b.toNat).all scal=true:=by rw[Hc];intro x q;obtain⟨_,_,rfl⟩:=GA.1 q;rfl
 have C:(s.data.toList.map λb=>Value.int .u8 b.toNat).all cellv=true:=by rw[Hc];intro x q;obtain⟨_,_,rfl⟩:=GA.1 q;rfl
 refine⟨_,bu J σ,⟨z,λ_=>rfl,firstCells_string s w,firstCells_string s w.drew,?_,?_⟩,?_,C⟩;have:=byteCells_length s;unfold byteCells at this;rw[this,Jq];intro u Y;obtain⟨_,_,rfl⟩:=GA.1 Y;rfl;have:=byteCells_length s;unfold byteCells at this;rw[this,Jq];cases h
abbrev _root_.Go.Jc:=@List.drop_zero
abbrev _root_.Go.IY:=@Array.getElem?_append
abbrev _root_.Go.Ip:=@Option.getD_some
abbrev _root_.Go.JR:=@Nat.le_of_eq
abbrev _root_.Go.JX:=@Nat.mul_assoc
def cK(A:AH)(o:AObj):Option AH:=
 match T.set FU A.t A.next o with|some t=>some ⟨t,A.next+1⟩|none=>none
def cJ:TypeDesc->Bool
 | .slice _| .string=>true
 |_=>false
def ez (E : Env) (A:AH)(ts:List TypeId)(s x:Value):Option (Value×AH):=
 match ts with
 | [t, tx] => (match und E t,und E tx with
   | some (.slice e),some dx=>(match E.ti e with
     | some ie => (match ie.zero,srcA A ie.size x with
       | some z, some (n,news)=>
         bif cJ dx&&(Nat.beq z.cells.toList.length ie.size&&Nat.blt 0 ie.size)then
         (match s with
         | .slice none sl sk=>
           bif Nat.beq sl 0&&Nat.beq sk 0 then
            bif Nat.beq n 0 then some (s,A)
            else bif Nat.ble n 70368744177664&&Nat.ble (n*ie.bytes) 140737488355328 then
             (match cK A (.cells news e)with|some A'=>some (.slice (some ⟨A.next,0,none⟩) n unk,A')|none=>none)else none
           else none
         | .slice (some ⟨B,o,none⟩) sl sk=>
           bif Nat.beq n 0 then bif Nat.ble unk sk||Nat.ble sl sk then some (s,A)else none
           else bif Nat.ble (sl+n) 70368744177664&&Nat.ble ((sl+n)*ie.bytes) 140737488355328 then
            bif Nat.blt sk unk then
             bif Nat.ble (sl+n) sk then(match fx A B (o+sl*ie.size) news with|some A'=>some (.slice (some ⟨B,o,none⟩) (sl+n) sk,A')|none=>none)
             else(match(bif Nat.beq sl 0 then some []else gj A B o (sl*ie.size))with
              |some olds=>(match cK A (.cells (olds++news) e)with|some A'=>some (.slice (some ⟨A.next,0,none⟩) (sl+n) unk,A')|none=>none)
              |none=>none)
            else bif Nat.beq sk unk then
             (match A.t.get B with
             | some (.cells c eb)=>bif Nat.beq eb e&&Nat.ble (sl*ie.size) c.length then
               (match T.set FU A.t B .dead with
               | some t'=>(match T.set FU t' A.next (.cells (c.take (sl*ie.size)++news) e)with
                 |some t''=>some (.slice (some ⟨A.next,0,none⟩) (sl+n) unk,⟨t'',A.next+1⟩)
                 |none=>none)
               |none=>none)else none
             |_=>none)
            else none
           else none
         |_=>none)else none
       |_,_=>none)
     |none=>none)
   |_,_=>none)
 |_=>none
theorem tp{c:Lh}(h:look A B=some c)(g:n<=c.length):gj A B 0 n=some (c.take n):=by
 unfold gj;rw[h];have a:(c.take n).length=n:=by simp;omega
 have f:Nat.beq (c.take n).length n=true:=by rw[a];simp
 simp only[Jc,f,C']
theorem fN(z:Array Value)(n:Nat):(Builtin.zeroCells z n).size=n*z.size:=by simp[Builtin.zeroCells]
theorem yJ{c:Lh}{f:TypeInfo}{z:Value}{cap a:Nat}(s:P.info? e=some f)(p:z.cells.size=f.size)(r:c'.length=a*f.size)(k:a<=cap)(h:VRs σ' c c'):
 OR P σ' (some (.cells (c'.toArray++Builtin.zeroCells z.cells (cap-a)) e)) 0 cap (.cells c e):=by refine⟨_,0,0,rfl,λi _ h=>by omega,λi v q=>?_,?_,rfl⟩;obtain⟨v',l,u⟩:=h.get q;refine⟨v',?_,u⟩;have g:i<c'.length:=(GE.1 l).1;rw[H8,IY,Gw (by simpa using g)];simpa using l;rw[Array.size_append,fN,p,H0,r];simp only[Program.cellsOf,s,Hx,Ip,H8];rw[<-Ib];exact JR (by congr 1;omega)
theorem pe(ok:E.Ok)(R:Rel E.P σ A w){s:Value}(hs:VR σ s s')(hx:VR σ x x')(h:ez E A ts.toList s x=some (v,A')):
    ∃v' w' σ',(Builtin.append_ ts ty #[s',x']).run E.P w=.ok v' w'/\VR σ' v v'/\Rel E.P σ' A' w'/\Ext σ A w σ' A' w':=by
  unfold ez at h;split at h;rename_i t tx e4;obtain rfl:ts= #[t,tx]:=by cases ts;simp_all
  split at h;rename_i e dx hu d6;split at h;rename_i p e0;split at h;rename_i z n news hz c3;cases hb:(cJ dx&&(Nat.beq z.cells.toList.length p.size&&Nat.blt 0 p.size));rw[hb]at h;simp at h;rw[hb]at h;simp only[C']at h;simp only[f',blt_eq,GQ]at hb;obtain⟨b1,b2,b3⟩:=hb;have b2:z.cells.size=p.size:=by have:=Gy b2;simpa using this
  have O:=ce ok hu;have hi:=ok.ti _ _ e0;have K:(∃e',E.P.underlying tx=some (.slice e'))∨E.P.underlying tx=some .string:=by have:=ce ok d6;cases dx<;>simp[cJ]at b1;exact .inr this;exact .inl ⟨_,this⟩
  obtain⟨g,q,hS,a2,e3⟩:=Av R hx c3 K
  have X:∀ (N:Option Addr) (sl H:Nat) (D f:Lh) (A0:AH),Rel E.P σ A0 w->A0.next=A.next->
      VRs σ D f->D.length=sl*p.size->(Builtin.firstCells p.size sl (.slice N sl H)).run E.P w.drew=.ok f.toArray w.drew->
      H<sl+n->sl+n<=70368744177664->(sl+n)*p.bytes<=140737488355328->∀ Y,T.set FU A0.t A.next (.cells (D++news) e)=some Y->
      (∃ I:Nat,sl+n<=I/\∃ w':World,(Builtin.append_ #[t,tx] ty #[.slice N sl H,x']).run E.P w=.ok (.slice (some ⟨w.heap.size,0,none⟩) (sl+n) I) w'/\
        Rel E.P (upd σ A.next (w.heap.size,0,I)) ⟨Y,A.next+1⟩ w'/\Ext σ A0 w (upd σ A.next (w.heap.size,0,I)) ⟨Y,A.next+1⟩ w'):=by
    intro N sl H D f A0 R0 c6 ho Q c5 d1 e5 f2 Y r
    have d5:Builtin.nextslicecap (sl+n) H*p.bytes<=281474976710656:=by
      have h1:=Room.nextslicecap_le' d1
      calc Builtin.nextslicecap (sl+n) H*p.bytes<=2*(sl+n)*p.bytes:=Hr _ h1
        _=2*((sl+n)*p.bytes):=JX _ _ _
        _<=281474976710656:=by omega
    have a8:=run_append_grow_src w t tx ty e p z O hi hz N sl H f c5 x' n g hS d1 (by omega) d5
    have c1:=grownCap_ge w (sl+n) H e
    generalize grownCap w (sl+n) H e=I at a8 c1
    refine⟨I,c1,_,a8,?_,?_⟩
    · rw[<-c6]at r ⊢
      refine R0.alloc (ob:=.cells ((f++g).toArray++Builtin.zeroCells z.cells (I-(sl+n))) e) r (R0.fresh _ (GK _)) (IC _) (I1 _) ?_ rfl
      refine yJ hi b2 ?_ c1 (((ho.mono (ch (R0.fresh _ (GK _))))).append (q.mono (ch (R0.fresh _ (GK _)))))
      rw[Gx,ho.length,Q,q.length,a2,Ib]
    · rw[<-c6]at r ⊢
      exact Ext.alloc R0 r (I1 _) (ob:=.cells ((f++g).toArray++Builtin.zeroCells z.cells (I-(sl+n))) e) rfl rfl rfl rfl
  split at h;rename_i sl H;cases hs;cases hb:(Nat.beq sl 0&&Nat.beq H 0);rw[hb]at h;simp at h;rw[hb]at h;simp only[C']at h;simp only[f']at hb;obtain⟨e1,e2⟩:=hb;obtain rfl:=Gy e1;obtain rfl:=Gy e2;cases J:Nat.beq n 0 with
  | true=>
   rw[J]at h;simp only[C',osI,GC]at h;obtain⟨rfl,rfl⟩:=h;obtain rfl:=Gy J;have S:g=[]:=by have:=q.length;rw[a2]at this;simpa using this
   subst S;exact⟨_,w,σ,run_append_nothing w t tx ty e p O hi none 0 0 (GK _) x' hS,.slice0 _ _,R,Ext.refl _ _ _⟩
  | false=>
   rw[J]at h;simp only[GT]at h;have d9:=aW J;cases u:(Nat.ble n 70368744177664&&Nat.ble (n*p.bytes) 140737488355328);rw[u]at h;simp at h;rw[u]at h;simp only[C',cK]at h;simp only[f',GO]at u;cases r:T.set FU A.t A.next (.cells news e)with
   |none=>simp[r]at h
   |some Y=>simp only[r,osI,GC]at h;obtain⟨rfl,rfl⟩:=h;obtain⟨I,g1,w',g2,g3,g4⟩:=X none 0 0 [] [] A R rfl .nil (by simp) (by simp[Builtin.firstCells]) (by omega) (by omega) (by simpa using u.2) Y (by simpa using r);refine⟨_,w',_,g2,?_,g3,g4⟩;simp only[H8]at g1 ⊢;exact .sliceU n bF g1
  rename_i B o sl H;cases J:Nat.beq n 0 with
  | true=>
   rw[J]at h;simp only[C']at h;cases u:(Nat.ble unk H||Nat.ble sl H)with
   |false=>rw[u]at h;simp at h
   |true=>
   rw[u]at h;simp only[C',osI,GC]at h;obtain⟨rfl,rfl⟩:=h;obtain rfl:=Gy J;have S:g=[]:=by have:=q.length;rw[a2]at this;simpa using this
   subst S;have c0:∃ a' kk,s'=.slice a' sl kk/\sl<=kk:=by
    cases hs with
    |slice i' Z k' l f0=>simp only[HR,GO]at u;exact⟨_,_,rfl,by omega⟩
    |sliceU Z l J=>exact⟨_,_,rfl,J⟩
    |sliceV i' Z k' l J=>exact⟨_,_,rfl,J⟩
    |sliceE a a' k'=>exact⟨_,_,rfl,IM _⟩
    |gs0=>exact⟨_,_,rfl,IM _⟩
    |gs lo o' Z k' m l K hc ho hm=>exact⟨_,_,rfl,K⟩
   obtain⟨a',kk,rfl,c0⟩:=c0;exact⟨_,w,σ,run_append_nothing w t tx ty e p O hi a' sl kk c0 x' hS,hs,R,Ext.refl _ _ _⟩
  | false=>
   rw[J]at h;simp only[GT]at h;have d9:=aW J;cases u:(Nat.ble (sl+n) 70368744177664&&Nat.ble ((sl+n)*p.bytes) 140737488355328);rw[u]at h;simp at h;rw[u]at h;simp only[C']at h;simp only[f',GO]at u;have a3:∀ (a':Addr) (kk:Nat),(Builtin.firstCells p.size sl (.slice (some a') sl kk))=loadCells a' (sl*p.size):=λ_ _=>rfl;cases a4:Nat.blt H unk with
   | true=>
    rw[a4]at h;simp only[C']at h;rw[blt_eq,GQ]at a4;have U:∃ b d c,σ B=some (b,d,c)/\s'=.slice (some ⟨b,d+o,none⟩) sl H:=by
     cases hs with
     |slice i' Z k' l K=>exact⟨_,_,_,l,rfl⟩
     |sliceU Z l J=>omega
     |sliceV i' Z k' l J=>omega
     |sliceE a a' k'=>omega
     |gs0 B o m a hm=>omega
     |gs lo o' Z k' m l K hc ho hm=>omega
    obtain⟨b,d,c,l,rfl⟩:=U;cases k:Nat.ble (sl+n) H with
    |true=>rw[k]at h;simp only[C']at h;have k:=H9 k;split at h;rename_i A2 c4;cases h;obtain⟨w',r1,r2,r3⟩:=qX R q c4 l;refine⟨.slice (some ⟨b,d+o,none⟩) (sl+n) H,w',σ,?_,.slice o (sl+n) H l a4,r2,r3⟩;rw[<-Hs]at r1;rcases K with⟨e',K⟩|K<;>simp[Builtin.append_,I5 O,I5 K,sizeOf,typeInfo,hi,hS.len,k,hS.cells,aL,r1];cases h
    |false=>
    rw[k]at h;simp only[GT]at h;have a1:H<sl+n:=by
     have:¬ sl+n<=H:=by intro hc;rw[<-GO]at hc;rw[hc]at k;cases k
     omega
    split at h;rename_i D C;simp only[cK]at h;cases r:T.set FU A.t A.next (.cells (D++news) e)with
    |none=>simp[r]at h
    | some Y=>
     simp only[r,osI,GC]at h;obtain⟨rfl,rfl⟩:=h;have Q:∃ f,VRs σ D f/\D.length=sl*p.size/\(Builtin.firstCells p.size sl (.slice (some ⟨b,d+o,none⟩) sl H)).run E.P w.drew=.ok f.toArray w.drew:=by
      cases b0:Nat.beq sl 0 with
      |true=>rw[b0]at C;simp only[C',osI]at C;subst C;obtain rfl:=Gy b0;exact⟨[],.nil,by simp,by simp[Builtin.firstCells,loadCells,loadCellsFrom]⟩
      |false=>rw[b0]at C;simp only[GT]at C;obtain⟨l',g1,g2⟩:=cX R C l;exact⟨l',g1,dj C,g2 w.drew rfl⟩
     obtain⟨f,q1,q2,q3⟩:=Q;obtain⟨I,g1,w',g2,g3,g4⟩:=X (some ⟨b,d+o,none⟩) sl H D f A R rfl q1 q2 q3 a1 u.1 u.2 Y r;exact⟨_,w',_,g2,.sliceU (sl+n) bF g1,g3,g4⟩
    cases h
   |false=>
   rw[a4]at h;simp only[GT]at h;cases b4:Nat.beq H unk;rw[b4]at h;simp at h;rw[b4]at h;simp only[C']at h;obtain rfl:=Gy b4;have U:∃ b d c,σ B=some (b,d,c)/\o=0/\s'=.slice (some ⟨b,d,none⟩) sl c/\sl<=c:=by
    cases hs with
    |slice i' Z k' l K=>omega
    |sliceU Z l J=>exact⟨_,_,_,l,rfl,rfl,J⟩
    |gs0 B o m a hm=>omega
    |gs lo o' Z k' m l K hc ho hm=>omega
   obtain⟨b,d,c,l,rfl,rfl,e9⟩:=U;split at h;rename_i cs eb hg;cases a5:(Nat.beq eb e&&Nat.ble (sl*p.size) cs.length);rw[a5]at h;simp at h;rw[a5]at h;simp only[C']at h;simp only[f',GO]at a5;obtain⟨h3,h4⟩:=a5;obtain rfl:=Gy h3;split at h;rename_i t1 a0;split at h;rename_i Y r;cases h;obtain⟨b',d',c',a6,ca,lo,d3,g1,g2,g3,g4,g5⟩:=R.obj B _ hg rfl;rw[l]at a6;cases a6;have V:E.P.cellsOf eb=p.size:=by simp[Program.cellsOf,hi]
   rw[V]at g4;by_cases k:sl+n<=c;have d0:(sl+n)*p.size<=c*p.size:=Hr _ k;have a9:g.length=n*p.size:=by rw[q.length,a2]
   have b5:d+sl*p.size+g.length<=ca.size:=by rw[a9];rw[Ib]at d0;omega
   obtain⟨w',r1,r2,r3,r4,r5,r6,r7,r8⟩:=cO (P:=E.P) g 0 w b (d+sl*p.size) ca eb lo d3 g1 (by omega) g2 (q.cellv e3);have a7:σ.sub (upd σ A.next (b,d,c)):=ch (R.fresh _ (GK _));refine⟨.slice (some ⟨b,d,none⟩) (sl+n) c,w',upd σ A.next (b,d,c),?_,.sliceU (sl+n) bF k,?_,Ext.move R hg rfl l a0 r r2 r3 r5 r6 r7⟩;rcases K with⟨e',K⟩|K<;>simp[Builtin.append_,I5 O,I5 K,sizeOf,typeInfo,hi,hS.len,k,hS.cells,aL,r1];refine R.move hg rfl l a0 r rfl r2 r3 ?_;rw[r4];have c2:d+sl*p.size+g.length<=ca.toList.length:=by simpa using b5
   refine⟨_,lo,d3,rfl,λi d2=>g2 i (by rw[H0,bm (by simpa using b5)]at d2;simpa using d2),λi v M=>?_,?_,g5⟩;have d4:(over ca.toList (d+sl*p.size+0) g).toArray[d+i]? =(over ca.toList (d+sl*p.size) g)[d+i]?:=by simp
   rw[d4,b7 c2];rw[G0]at M;have d7:(cs.take (sl*p.size)).length=sl*p.size:=by simp;omega
   rw[d7]at M;by_cases k1:i<sl*p.size;rw[Gw k1,GZ,Gw k1]at M;rw[Gw (by omega)];obtain⟨v',e1,e2⟩:=g3 i v M;exact⟨v',by simpa using e1,e2.mono a7⟩;rw[D' k1]at M;rw[D' (by omega)];have f1:i-sl*p.size<news.length:=(GE.1 M).1;rw[Gw (by rw[a9];omega)];obtain⟨v',e1,e2⟩:=q.get M;have ei:d+i-(d+sl*p.size)=i-sl*p.size:=by omega
   exact⟨v',by rw[ei];exact e1,e2.mono a7⟩;rw[H0,bm (by simpa using b5),V];simpa using g4;have Q:∃ f,VRs σ (cs.take (sl*p.size)) f/\(Builtin.firstCells p.size sl (.slice (some ⟨b,d,none⟩) sl c)).run E.P w.drew=.ok f.toArray w.drew:=by have hl:gj A B 0 (sl*p.size)=some (cs.take (sl*p.size)):=tp (by unfold look;rw[hg]) h4;obtain⟨l',q1,q2⟩:=cX R hl l;exact⟨l',q1,by rw[a3];have:=q2 w.drew rfl;simpa using this⟩
   obtain⟨f,q1,q3⟩:=Q;have q2:(cs.take (sl*p.size)).length=sl*p.size:=by simp;omega
   obtain⟨I,k1,w',k2,k3,k4⟩:=X (some ⟨b,d,none⟩) sl c _ f ⟨t1,A.next⟩ (R.dead a0) rfl q1 q2 q3 (by omega) u.1 u.2 Y r;exact⟨_,w',_,k2,.sliceU (sl+n) bF k1,k3,(Ext.dead a0).trans k4⟩;cases h;cases h;cases h
  cases h;cases h;cases h;cases h;cases h
abbrev _root_.Go.H7:=@Array.getElem?_setIfInBounds
theorem ERs.get:∀ {l:Lc}{l':List MapEntry},ERs σ l l'->∀ {i:Nat}{x},l[i]? =some x->∃ e,l'[i]? =some e/\ER σ x e
 |_,_,.nil,i,x,h=>by simp at h
 | _,_,.cons hv t,i,x,h=>by
  cases i with
  |zero=>simp at h;subst h;exact⟨_,by simp,hv⟩
  |succ i=>simp at h;obtain⟨v',f,a⟩:=t.get h;exact⟨v',by simpa using f,a⟩
theorem ERs.append:∀ {l m:Lc}{l' a:List MapEntry},ERs σ l l'->ERs σ m a->ERs σ (l++m) (l'++a)
 |_,_,_,_,.nil,h=>h
 |_,_,_,_,.cons hv t,h=>.cons hv (t.append h)
theorem ERs.set:∀ {l:Lc}{l':List MapEntry}(n:Nat) {x e},ERs σ l l'->ER σ x e->ERs σ (l.set n x) (l'.set n e)
 |_,_,_,_,_,.nil,_=>.nil
 |_,_,0,_,_,.cons _ t,h=>.cons h t
 |_,_,n+1,_,_,.cons hv t,h=>.cons hv (t.set n h)
theorem ERs.erase:∀ {l:Lc}{l':List MapEntry}(n:Nat),ERs σ l l'->ERs σ (l.eraseIdx n) (l'.eraseIdx n)
 |_,_,_,.nil=>.nil
 |_,_,0,.cons _ t=>t
 |_,_,n+1,.cons hv t=>.cons hv (t.erase n)
theorem dG{o o2:Obj}(h:w.heap[b]? =some o)(a:∀ c e f,o≠ .cells c e f):(setObj b o2).run P w=.ok () {w with heap:=w.heap.setIfInBounds b o2}:=by unfold setObj;cases o<;>first|exact absurd rfl (a _ _ _)|simp[Sem.run,h]
def setA(A:AH)(B:Nat)(o:AObj):Option AH:=match T.set FU A.t B o with|some t=>some ⟨t,A.next⟩|none=>none
theorem nP(R:Rel P σ A w){o:AObj}{ob a:Obj}(C:A.t.get B=some o)(z:o.own=true)(q:o2.own=true)(g:σ B=some (b,d,c))(f:setA A B o2=some A')
 (k:w.heap[b]? =some ob) (p:OR P σ (some a) d c o2):
 Rel P σ A' {w with heap:=w.heap.setIfInBounds b a}/\Ext σ A w σ A' {w with heap:=w.heap.setIfInBounds b a}:=by
 unfold setA at f;split at f;rename_i t u;cases f;have s:b<w.heap.size:=by rcases Hg b w.heap.size with h|h;exact h;rw[He h]at k;cases k
 have H:(w.heap.setIfInBounds b a).size=w.heap.size:=by simp
 have D:∀ l,l≠b->(w.heap.setIfInBounds b a)[l]? =w.heap[l]?:=λl r=>by rw[H7];rw[D' (λe=>r e.symm)]
 have I:(w.heap.setIfInBounds b a)[b]? =some a:=by rw[H7];simp[s]
 exact⟨R.upd C z g u q H D (by simp only[I];exact p),Ext.upd C z g u H D rfl rfl rfl⟩;cases f
def gd (E:Env)(A:AH)(t:TypeId)(m k v:Value):Option AH:=
 match und E t,m with
 | some (.map kt et),.map (some B)=>(match A.t.get B with
   | some (.map es clock)=>bif flat k&&e7 E false kt k then
     (match iK E kt k es with
     |some none=>setA A B (.map (es++[(k,v,clock)]) (clock+1))
     | some (some (i,_))=>(match nth es i with
       |some (key,_,born)=>bif Instr.sameBits 10000 key k then setA A B (.map (es.set i (k,v,born)) clock)else none
       |none=>none)
     |none=>none)else none
   |_=>none)
 |_,_=>none
theorem ox(s:E.Ok)(R:Rel E.P σ A w){m k X g:Value}(hm:VR σ m X)(hk:VR σ k g)(Y:VR σ v v')(h:gd E A t m k v=some A'):
 ∃w',(Instr.mapUpdate t X g v').run E.P w=.ok () w'/\Rel E.P σ A' w'/\Ext σ A w σ A' w':=by
 unfold gd at h;split at h;rename_i O et B Z;split at h;rename_i es a U;cases J:(flat k&&e7 E false O k);rw[J]at h;simp at h;rw[J]at h;simp only[C']at h;simp only[f']at J;obtain⟨hf,C⟩:=J;obtain rfl:=cZ hf hk;obtain⟨b,d,c,f,h1,H,K⟩:=ow R U;cases hm with
 | map l=>
  rw[l]at h1;cases h1;obtain⟨f1,f2⟩:=qe s K (kt:=O) (k:=g) w;have D:=dH (P:=E.P) H (by simp);split at h;rename_i r;have q:∀ dd V,OR E.P σ (some (.map (f.push {key:=g,val:=v',born:=a}) (a+1))) dd V (.map (es++[(g,v,a)]) (a+1)):=λ_ _=>⟨_,rfl,by rw[Array.toList_push];exact K.append (.cons ⟨rfl,Y,rfl⟩ .nil)⟩;obtain⟨N,M⟩:=nP R U rfl rfl l h H (q _ _);refine⟨_,?_,N,M⟩;simp[Instr.mapUpdate,af s Z,D,li s C,f1 r,dG H (by simp)];rename_i i u r;obtain⟨u',g1,g2⟩:=f2 i u r;rw[aN]at h;split at h;rename_i key vv born hi;cases p:Instr.sameBits 10000 key g;rw[p]at h;simp at h;rw[p]at h;simp only[C']at h;obtain⟨e,e1,e2,e3,e4⟩:=K.get hi;simp only at e2 e3 e4;have I:f[i]? =some e:=by simpa using e1
  have z:(f.modify i λe=>{e with key:=g,val:=v'}).toList=f.toList.set i {e with key:=g,val:=v'}:=by apply II;intro j;rw[Iz,JJ,Hq];by_cases hj:i=j;subst hj;have Q:i<f.toList.length:=(GE.1 e1).1;simp only[Ie,I,Q];rfl;simp[hj]
  have q:∀ dd V,OR E.P σ (some (.map (f.modify i λe=>{e with key:=g,val:=v'}) a)) dd V (.map (es.set i (g,v,born)) a):=λ_ _=>⟨_,rfl,by rw[z];exact K.set i ⟨rfl,Y,e4⟩⟩;obtain⟨N,M⟩:=nP R U rfl rfl l h H (q _ _);refine⟨_,?_,N,M⟩;have S:(Instr.keyThatStays (((f[i]?).map (·.key)).getD g) g).run E.P w=.ok g w:=by rw[I];simp only[Hx,Ip,e2,Instr.keyThatStays,p,Ie];rfl
  simp only[Instr.mapUpdate,GN,af s Z,GJ,D,li s C,g1,S];exact dG H (by simp);cases h;cases h
 cases h;cases h
def delA (E:Env)(A:AH)(ts:List TypeId)(m k:Value):Option AH:=
 match ts with
 | t :: _ =>(match und E t with
   | some (.map kt et)=>bif flat k then(match m with
     | .map none=>bif e7 E true kt k then some A else none
     | .map (some B)=>(match A.t.get B with
       | some (.map es clock)=>bif e7 E es.isEmpty kt k then
         (match iK E kt k es with
         |some none=>setA A B (.map es clock)
         |some (some (i,_))=>setA A B (.map (es.eraseIdx i) clock)
         |none=>none)else none
       |_=>none)
     |_=>none)else none
   |_=>none)
 |_=>none
theorem del_ok(l:E.Ok)(R:Rel E.P σ A w){m k Z H:Value}(C:as[0]? =some Z)(z:as[1]? =some H)(hm:VR σ m Z)(hk:VR σ k H)(h:delA E A ts.toList m k=some A'):
 ∃w',(Builtin.delete_ ts ty as).run E.P w=.ok (.tuple #[]) w'/\Rel E.P σ A' w'/\Ext σ A w σ A' w':=by
 unfold delA at h;split at h;rename_i t a0 U;have q:=ki U;split at h;rename_i K et S;cases X:flat k;rw[X]at h;simp at h;rw[X]at h;simp only[C']at h;obtain rfl:=cZ X hk;split at h;cases hm;cases f:e7 E true K H;rw[f]at h;simp at h;rw[f]at h;simp only[C',osI]at h;subst h;exact⟨w,by simp[Builtin.delete_,q,C,z,af l S,li l f],R,Ext.refl _ _ _⟩;rename_i B;split at h;rename_i N a V;obtain⟨b,d,c,D,h1,J,M⟩:=ow R V;cases hm with
 | map p=>
  rw[p]at h1;cases h1;cases f:e7 E N.isEmpty K H;rw[f]at h;simp at h;rw[f]at h;simp only[C']at h;obtain⟨f1,f2⟩:=qe l M (kt:=K) (k:=H) w;have I:=dH (P:=E.P) J (by simp);have g:D.isEmpty=N.isEmpty:=by rw[<-M.isEmpty];simp[Array.isEmpty,List.isEmpty_iff,HE]
  split at h;rename_i s;have r:∀ dd Y,OR E.P σ (some (.map D a)) dd Y (.map N a):=λ_ _=>⟨_,rfl,M⟩;obtain⟨Q,O⟩:=nP R V rfl rfl p h J (r _ _);refine⟨_,?_,Q,O⟩;simp[Builtin.delete_,q,C,z,af l S,I,g,li l f,f1 s,dG J (by simp)];rename_i i u s;obtain⟨u',g1,g2⟩:=f2 i u s;have r:∀ dd Y,OR E.P σ (some (.map (D.eraseIdxIfInBounds i) a)) dd Y (.map (N.eraseIdx i) a):=λ_ _=>⟨_,rfl,by rw[Array.toList_eraseIdxIfInBounds];exact M.erase i⟩;obtain⟨Q,O⟩:=nP R V rfl rfl p h J (r _ _);refine⟨_,?_,Q,O⟩;simp[Builtin.delete_,q,C,z,af l S,I,g,li l f,g1,dG J (by simp)];cases h
 cases h;cases h;cases h;cases h
def xr (E :Env)(A:AH)(ts:List TypeId)(x:Value):Option AH:=
 match ts with
 | t :: _ =>(match und E t with
   | some (.slice e)=>(match x with
     | .slice none _ _=>some A
     | .slice (some ⟨B,o,none⟩) n k=>bif Nat.beq n 0 then some A else(match E.ti e with
       | some ie=>(match ie.zero with
         |some z=>bif z.cells.toList.all scal&&Nat.blt 0 z.cells.toList.length then fx A B o (rep z.cells.toList n)else none
         |none=>none)
       |none=>none)
     |_=>none)
   | some (.map _ _)=>(match x with
     | .map none=>some A
     | .map (some B)=>(match A.t.get B with|some (.map es clock)=>setA A B (.map [] clock)|_=>none)
     |_=>none)
   |_=>none)
 |_=>none
theorem zW(s:E.Ok)(R:Rel E.P σ A w)(l:as[0]? =some x')(H:VR σ x x')(h:xr E A ts.toList x=some A'):
 ∃w',(Builtin.clear_ ts ty as).run E.P w=.ok (.tuple #[]) w'/\Rel E.P σ A' w'/\Ext σ A w σ A' w':=by
 unfold xr at h;split at h;rename_i t Z Q;have g:=ki Q;split at h;rename_i e u;split at h;cases H;cases h;exact⟨w,by simp[Builtin.clear_,g,l,af s u],R,Ext.refl _ _ _⟩;rename_i B o n k;cases C:Nat.beq n 0 with
 | true=>
  rw[C]at h;simp only[C',osI]at h;subst h;obtain rfl:=Gy C;have q:∃ a' D,x'=.slice a' 0 D:=by cases H<;>exact⟨_,_,rfl⟩
  obtain⟨a',D,rfl⟩:=q;cases a'<;>exact⟨w,by simp[Builtin.clear_,g,l,af s u],R,Ext.refl _ _ _⟩
 | false=>
  rw[C]at h;simp only[GT]at h;have r:=aW C;split at h;rename_i ie U;split at h;rename_i z hz;cases I:(z.cells.toList.all scal&&Nat.blt 0 z.cells.toList.length);rw[I]at h;simp at h;rw[I]at h;simp only[C']at h;simp only[f',blt_eq,GQ]at I;have q:∃ b d c D,σ B=some (b,d,c)/\x'=.slice (some ⟨b,d+o,none⟩) n D:=by
   cases H with
   |slice i' M N f hk=>exact⟨_,_,_,_,f,rfl⟩
   |sliceU M f C=>exact⟨_,_,_,_,f,rfl⟩
   |sliceV i' M N f C=>exact⟨_,_,_,_,f,rfl⟩
   |sliceE a a' N=>exact absurd rfl r
   |gs0=>exact absurd rfl r
   |gs lo o' M N m f hk hc ho hm=>exact⟨_,_,_,_,f,rfl⟩
  obtain⟨b,d,c,D,f,rfl⟩:=q;obtain⟨w',K,J,r3⟩:=qX R (bu (jU I.1 n) σ) h f;refine⟨w',?_,J,r3⟩;have O:(Builtin.zeroCells z.cells n).toList=rep z.cells.toList n:=by have:=gC z.cells n (.inl (by simpa using I.2));unfold Builtin.zeroCells;rw[this]
  cases n with
  |zero=>exact absurd rfl r
  |succ n=>simp[Builtin.clear_,g,l,af s u,fq s U hz,O,K]
  cases h;cases h
 cases h;rename_i kt et u;split at h;cases H;cases h;exact⟨w,by simp[Builtin.clear_,g,l,af s u],R,Ext.refl _ _ _⟩;rename_i B;split at h;rename_i es p X;obtain⟨b,d,c,a0,Y,V,h3⟩:=ow R X;cases H with
 |map f=>rw[f]at Y;cases Y;have S:∀ dd cc,OR E.P σ (some (.map #[] p)) dd cc (.map [] p):=λ_ _=>⟨_,rfl,.nil⟩;obtain⟨K,J⟩:=nP R X rfl rfl f h V (S _ _);refine⟨_,?_,K,J⟩;simp[Builtin.clear_,g,l,af s u,dH (P:=E.P) V (by simp),dG V (by simp)]
 cases h;cases h;cases h;cases h
def zS(E:Env)(A:AH)(ts:List TypeId)(dst src:Value):Option (Value×AH):=bif E.sym then none else none
theorem oA{a:Option Addr}{k:Nat}(g:VR σ (.slice a n k) x'):∃ a' f,x'=.slice a' n f:=by cases g<;>exact⟨_,_,rfl⟩
theorem xl(k:E.Ok)(R:Rel E.P σ A w)(g:as[0]? =some x')(f:as[1]? =some y')(p:VR σ x x')(l:VR σ y y')(h:zS E A ts.toList x y=some (v,A')):
 ∃w',(Builtin.copy_ ts ty as).run E.P w=.ok v w'/\flat v=true/\Rel E.P σ A' w'/\Ext σ A w σ A' w':=by unfold zS at h;cases a:E.sym<;>rw[a]at h<;>cases h
def s2bA(E:Env)(A:AH)(src dst:TypeId)(x:Value):Option (Value×AH):=bif E.sym then none else none
theorem s2b_ok(k:E.Ok)(R:Rel E.P σ A w){a f:TypeId}(l:VR σ x x')(h:s2bA E A a f x=some (v,A')):
 ∃v' w' σ',(convert a f x').run E.P w=.ok v' w'/\VR σ' v v'/\Rel E.P σ' A' w'/\Ext σ A w σ' A' w':=by unfold s2bA at h;cases g:E.sym<;>rw[g]at h<;>cases h
def uU(E:Env)(A:AH)(t:TypeId)(x:Value):Option (Value×AH):=bif E.sym then none else none
theorem yw(f:E.Ok)(R:Rel E.P σ A w)(g:VR σ x x')(h:uU E A t x=some (v,A')):
 ∃v' w' σ',(Instr.range t x').run E.P w=.ok v' w'/\VR σ' v v'/\Rel E.P σ' A' w'/\Ext σ A w σ' A' w':=by unfold uU at h;cases a:E.sym<;>rw[a]at h<;>cases h
def Df(A:AH)(it:Value)(isString:Bool):Option (Value×AH):=bif isString then none else none
theorem De(k:E.Ok)(R:Rel E.P σ A w){f a:Value}{b:Bool}(l:VR σ f a)(h:Df A f b=some (v,A')):
 ∃v' w',(Instr.next a b ty).run E.P w=.ok v' w'/\VR σ v v'/\Rel E.P σ A' w'/\Ext σ A w σ A' w':=by unfold Df at h;cases g:b<;>rw[g]at h<;>cases h
abbrev _root_.Go.Hj:=@List.map_cons
abbrev _root_.Go.GW:=@List.mem_append
abbrev _root_.Go.HZ:=@List.drop_eq_nil_of_le
abbrev _root_.Go.Hh:=@List.length_take
abbrev _root_.Go.Jd:=@List.length_drop
theorem xx(h:cellv v=true):v.cells.toList=[v]:=by cases v<;>simp_all [cellv,Value.oneCell',Value.cells]
def eI(agg:Bool)(sz:Nat):Nat->Lh->Lh
 |0,_=>[]
 | k+1,l=>(match agg with
   |true=>.agg ⟨l.take sz⟩
   |false=>(match l with|v::_=>v| []=>undef))::eI agg sz k (l.drop sz)
theorem g9{agg:Bool}{sz:Nat}(g:agg=true∨sz=1):∀ (k:Nat) (l:Lh),l.length=k*sz->l.all cellv=true->am (eI agg sz k l)=l/\(∀x∈eI agg sz k l,x.cells.size=sz)/\(eI agg sz k l).length=k
 |0,l,h,_=>by have:l=[]:=Hb (by simpa using h);subst this;exact⟨rfl,λx a=>by simp[eI]at a,rfl⟩
 | k+1,l,h,hc=>by
  rw[Ji]at h;have hd:(l.drop sz).length=k*sz:=by simp;omega
  have p:(l.drop sz).all cellv=true:=by rw[Hc]at hc ⊢;exact λx a=>hc x (Ig a)
  obtain⟨D,C,z⟩:=g9 g k (l.drop sz) hd p;have f:∃ u:Value,eI agg sz (k+1) l=u::eI agg sz k (l.drop sz)/\u.cells.toList=l.take sz:=by
   cases agg with
   |true=>exact⟨.agg ⟨l.take sz⟩,rfl,rfl⟩
   |false=>
   have g:sz=1:=by simpa using g
   subst g;cases l with
   |nil=>simp at h
   |cons v r=>refine⟨v,rfl,?_⟩;simp only[I3,f']at hc;simpa using xx hc.1
  obtain⟨u,H,q⟩:=f;have s:u.cells.size=sz:=by
   have:u.cells.toList.length=sz:=by rw[q];simp;omega
   simpa using this
  rw[H];refine⟨by rw[aV,q,D,I9],λx a=>?_,by simp[z]⟩;rcases GI.1 a with rfl|a;exact s;exact C x a
def srcG(E:Env)(A:AH)(e:TypeId)(sz:Nat)(x:Value):Option Lh:=
 match x with
 | .func (.yield sz') ⟨els⟩ ⟨[]⟩=>bif Nat.beq sz' sz then some els else none
 | .slice none n _=>bif Nat.beq n 0 then some []else none
 | .slice (some ⟨B,o,none⟩) n m=>(match isG m with
   | true=>(match A.t.get B with
     | some (.gro els tl e2)=>(match E.ti e2 with
       |some ie=>bif (Nat.beq ie.size sz&&Nat.beq (gsz m) sz)&&(Nat.blt 0 sz&&Nat.ble (n+gLo sz o) (glue els tl).length)then some (((glue els tl).drop (gLo sz o)).take n)else none
       |none=>none)
     |_=>none)
   | false=>(match gj A B o (n*sz),und E e with
     |some l,some d=>bif (Nat.blt m (unk+2)&&l.all cellv)&&(br d||Nat.beq sz 1)then some (eI (br d) sz n l)else none
     |_,_=>none))
 | .string s=>bif Nat.beq sz 1 then some (s.data.toList.map λb=>.int .u8 b.toNat)else none
 |_=>none
theorem uH{o:Nat}{l:Lh}(h:∀ (j:Nat) v,l[j]? =some v->w.cell? ⟨b,o+j,none⟩=some v)(w':World)(a:w'.heap=w.heap):(loadCells ⟨b,o,none⟩ l.length).run P w'=.ok l.toArray w':=
 I7 w' ⟨b,o,none⟩ l (λj v f=>by rw[aL];have:=h j v f;unfold World.cell? at this ⊢;rw[a];exact this)
theorem tY(h:∀ x∈els,x.cells.size=sz)(a n:Nat):∀ x∈(els.drop a).take n,x.cells.size=sz:=λx f=>h x (Ig (H5 f))
theorem Cu(ok:E.Ok)(R:Rel E.P σ A w)(M:VR σ x x')(h:srcG E A e sz x=some news)(Z:(am news).all cellv=true){U:TypeId}
 (O:(∃e',E.P.underlying U=some (.slice e'))∨E.P.underlying U=some .string):∃ f,VRs σ (am news) f/\Src E.P sz U x' news.length f w/\(∀u∈news,u.cells.size=sz):=by
 have mk:∀ (b o I n:Nat) (f:Lh),VRs σ (am news) f->(∀u∈news,u.cells.size=sz)->news.length=n->(∀(j:Nat) v,f[j]? =some v->w.cell? ⟨b,o+j,none⟩=some v)->
  Src E.P sz U (.slice (some ⟨b,o,none⟩) n I) news.length f w:=by
  intro b o I n f C z S Q
  subst S
  have N:f.length=news.length*sz:=by rw[C.length,ap z]
  have D:=λw' hw=>uH (P:=E.P) Q w' hw
  rw[N]at D
  exact⟨O,λ_=>rfl,D w rfl,D w.drew rfl,N,C.cellv Z⟩
 have q:∀ (a:Option Addr) (I:Nat),news=[]->∃ f,VRs σ (am news) f/\Src E.P sz U (.slice a 0 I) news.length f w/\(∀u∈news,u.cells.size=sz):=by
  intro a I S;subst S;cases a with
  |none=>exact⟨[],.nil,⟨O,λ_=>rfl,rfl,rfl,by simp,by simp⟩,by simp⟩
  |some a'=>exact⟨[],.nil,⟨O,λ_=>rfl,by simp[Builtin.firstCells,loadCells,loadCellsFrom],by simp[Builtin.firstCells,loadCells,loadCellsFrom],by simp,by simp⟩,by simp⟩
 unfold srcG at h;split at h;rename_i a3 els;cases p:Nat.beq a3 sz;rw[p]at h;cases h;rw[p]at h;obtain rfl:=Gy p;simp only[C',osI]at h;subst h;cases M with
 |func fn hf=>simp[Fn.still]at hf
 | @dat b o k _ e0 fz c _ hro z hk0 hc=>
  refine⟨_,hc,mk b o k _ _ hc z rfl (λj v C=>?_),z⟩;rw[GZ]at C;split at C;rw[GV]at C;have:c[o+j]? =some v:=by simpa using C
  simp[World.cell?,R.ro b _ hro,this];cases C
 |datN=>exact q none 0 rfl
 |datE _ a k=>exact q (some a) k rfl
 rename_i n k;cases p:Nat.beq n 0;rw[p]at h;cases h;rw[p]at h;obtain rfl:=Gy p;simp only[C',osI]at h;cases M;exact q none k h.symm;rename_i B o n m;split at h;rename_i hg;split at h;rename_i a1 a2 e2 hB;rw[cb]at h;generalize hE:a1++a2=els at h;split at h;rename_i ie a7;cases p:(Nat.beq ie.size sz&&Nat.beq (gsz m) sz)&&(Nat.blt 0 sz&&Nat.ble (n+gLo sz o) els.length);rw[p]at h;cases h;rw[p]at h;simp only[C',osI]at h;simp only[f',GL,HY,GO]at p;obtain⟨⟨z,Y⟩,V,a5⟩:=p;rcases b8 M hg with⟨rfl,a,rfl⟩|⟨b,d,c,lo,k,g,rfl,S,hc,rfl⟩;exact q a 0 (by rw[<-h];simp);rw[Y,lp V]at h a5;have a8:E.P.cellsOf e2=sz:=by simp[Program.cellsOf,ok.ti _ _ a7,z]
 obtain⟨c',l0,h0,K,g2,g3,g4,g5,g6⟩:=R.at hB rfl g;rw[hE]at g3 g4 g6;rw[a8]at g4 g5;have r:=tY g4 lo n;rw[h]at r;have J:news.length=n:=by rw[<-h];simp;omega
 have a9:am news=((am els).drop (lo*sz)).take (n*sz):=by rw[<-h,bT lo g4,cd n (λx M=>g4 x (Ig M))]
 have X:(lo+n)*sz<=c*sz:=Hr _ (by omega);rw[Ib]at X;have C:VRs σ (am news) ((c'.toList.drop (d+lo*sz)).take (n*sz)):=by refine VRs.of_get ?_ λj v H=>?_;rw[ap r,J];simp;omega;rw[a9,GZ]at H;split at H;rename_i a6;rw[GV]at H;obtain⟨v',e1,e2⟩:=g3 (lo*sz+j) v H;refine⟨v',?_,e2⟩;rw[GZ,Gw a6,GV,Hs];simpa using e1;cases H
 refine⟨_,C,?_,r⟩;rw[Y];refine mk b (d+lo*sz) k n _ C r J λj v H=>?_;rw[GZ]at H;split at H;rw[GV]at H;have:c'[d+lo*sz+j]? =some v:=by simpa using H
 simp[World.cell?,K,this];cases H;cases h;cases h;rename_i hg;split at h;rename_i l dd N hu;cases p:(Nat.blt m (unk+2)&&l.all cellv)&&(br dd||Nat.beq sz 1)with
 |false=>rw[p]at h;cases h
 | true=>
  rw[p]at h;simp only[C',osI]at h;simp only[f',HR,GL,HY]at p;obtain⟨⟨hm,b0⟩,hz⟩:=p;obtain⟨h1,h2,h3⟩:=g9 hz n l (dj N) b0;rw[h]at h1 h2 h3;have a0:∃ b d c I,σ B=some (b,d,c)/\x'=.slice (some ⟨b,d+o,none⟩) n I:=by
   cases M with
   |slice i' n' k' g O=>exact⟨_,_,_,_,g,rfl⟩
   |sliceU n' g S=>exact⟨_,_,_,_,g,rfl⟩
   |sliceV i' n' k' g S=>exact⟨_,_,_,_,g,rfl⟩
   |sliceE a a' k'=>omega
   |gs0 B o m a a4=>omega
   |gs lo o' n' k' m g O hc ho a4=>omega
  obtain⟨b,d,c,I,g,rfl⟩:=a0;obtain⟨l',K,g2⟩:=cX R N g;rw[<-h1]at K;refine⟨l',K,⟨O,λ_=>by rw[h3];rfl,?_,?_,by rw[K.length,ap h2],K.cellv Z⟩,h2⟩;rw[h3];exact g2 w rfl;rw[h3];exact g2 w.drew rfl
 cases h;rename_i s;cases p:Nat.beq sz 1;rw[p]at h;cases h;rw[p]at h;simp only[C',osI]at h;obtain rfl:=Gy p;have h1:∀ u∈news,u.cells.size=1:=by rw[<-h];intro u hu;obtain⟨_,_,rfl⟩:=GA.1 hu;rfl
 have h2:∀ l:List UInt8,am (l.map λb=>Value.int .u8 b.toNat)=l.map λb=>Value.int .u8 b.toNat:=by
  intro l;induction l with
  |nil=>rfl
  |cons x l ih=>rw[Hj,aV,ih];rfl
 obtain⟨f,K,g2,g3,_⟩:=Av R M (size:=1) (n:=s.size) (news:=news) (by rw[<-h];rfl) O;have N:news.length=s.size:=by rw[g3,Jq]
 refine⟨f,?_,?_,h1⟩;rw[<-h,h2,h];exact K;rw[N];exact g2;cases h
def oH (E : Env)(A:AH)(ts:List TypeId)(B o n m:Nat)(x:Value):Option (Value×AH):=
 match ts with
 | [t, tx] => (match und E t,und E tx with
   | some (.slice e),some dx=>(match E.ti e,A.t.get B with
     | some ie,some (.gro els tl eb)=>(match ie.zero,srcG E A e ie.size x with
       | some z,some news=>
         bif (cJ dx&&(Nat.beq z.cells.toList.length ie.size&&Nat.blt 0 ie.size))&&(Nat.beq eb e&&(Nat.beq (gsz m) ie.size&&isG m))then
          bif ((am news).all cellv&&Nat.beq (n+gLo ie.size o) (glue els tl).length)&&(Nat.ble (n+news.length) 70368744177664&&Nat.ble ((n+news.length)*ie.bytes) 140737488355328)then
           (match T.set FU A.t B .dead with
           | some t'=>(match T.set FU t' A.next (.gro ((glue els tl).drop (gLo ie.size o)) news e)with
             |some t''=>some (.slice (some ⟨A.next,0,none⟩) (n+news.length) m,⟨t'',A.next+1⟩)
             |none=>none)
           |none=>none)
          else none
         else none
       |_,_=>none)
     |_,_=>none)
   |_,_=>none)
 |_=>none
theorem td{a:TypeInfo}{z:Value}{cap:Nat}(u:P.info? e=some a)(q:z.cells.size=a.size)(f:∀ x∈els++tl,x.cells.size=a.size)(k:(els++tl).length<=cap)(h:VRs σ' (am (els++tl)) c'):
 OR P σ' (some (.cells (c'.toArray++Builtin.zeroCells z.cells (cap-(els++tl).length)) e)) 0 cap (.gro els tl e):=by
 have g:P.cellsOf e=a.size:=by simp[Program.cellsOf,u]
 have s:c'.length=(els++tl).length*a.size:=by rw[h.length,ap f]
 refine⟨_,0,0,rfl,λi _ h=>by omega,λi v r=>?_,by rw[g];exact f,?_,k⟩;obtain⟨v',p,C⟩:=h.get r;refine⟨v',?_,C⟩;have l:i<c'.length:=(GE.1 p).1;rw[H8,IY,Gw (by simpa using l)];simpa using p;rw[Array.size_append,fN,q,H0,s,g,H8,<-Ib];exact JR (by congr 1;omega)
theorem wG(ok:E.Ok)(R:Rel E.P σ A w){o:Nat}(hs:VR σ (.slice (some ⟨B,o,none⟩) n m) s')(D:VR σ x x')(h:oH E A ts.toList B o n m x=some (v,A')):
    ∃v' w' σ',(Builtin.append_ ts ty #[s',x']).run E.P w=.ok v' w'/\VR σ' v v'/\Rel E.P σ' A' w'/\Ext σ A w σ' A' w':=by
  unfold oH at h;split at h;rename_i t tx f1;obtain rfl:ts= #[t,tx]:=by cases ts;simp_all
  split at h;rename_i e dx hu d9;split at h;rename_i f d6 d7 X e5 hB;rw[cb]at h;generalize hE:d6++d7=els at h;split at h;rename_i z news hz c2;cases hb:(cJ dx&&(Nat.beq z.cells.toList.length f.size&&Nat.blt 0 f.size))&&(Nat.beq X e&&(Nat.beq (gsz m) f.size&&isG m));rw[hb]at h;simp at h;rw[hb]at h;simp only[C']at h;simp only[f',GL,HY]at hb;obtain⟨⟨b1,b2,b3⟩,rfl,U,hg⟩:=hb;have b2:z.cells.size=f.size:=by simpa using b2
  cases a0:((am news).all cellv&&Nat.beq (n+gLo f.size o) els.length)&&(Nat.ble (n+news.length) 70368744177664&&Nat.ble ((n+news.length)*f.bytes) 140737488355328);rw[a0]at h;simp at h;rw[a0]at h;simp only[C']at h;simp only[f',GL,GO]at a0;obtain⟨⟨d5,b5⟩,f3,f2⟩:=a0;split at h;rename_i t1 M;split at h;rename_i t2 I;cases h;have a6:=ce ok hu;have hi:=ok.ti _ _ e5;have hk:(∃e',E.P.underlying tx=some (.slice e'))∨E.P.underlying tx=some .string:=by have:=ce ok d9;cases dx<;>simp[cJ]at b1;exact .inr this;exact .inl ⟨_,this⟩
  obtain⟨g,q,hS,J⟩:=Cu ok R D c2 d5 hk;have c0:E.P.cellsOf X=f.size:=by simp[Program.cellsOf,hi]
  have a4:∀ (K:Option Addr) (Y:Nat) (u p:Lh),VRs σ (am u) p->(∀x∈u,x.cells.size=f.size)->u=els.drop (gLo f.size o)->u.length=n->
      (Builtin.firstCells f.size n (.slice K n Y)).run E.P w.drew=.ok p.toArray w.drew->Y<n+news.length->
      ∃v' w' σ',(Builtin.append_ #[t,tx] ty #[.slice K n Y,x']).run E.P w=.ok v' w'/\VR σ' (.slice (some ⟨A.next,0,none⟩) (n+news.length) m) v'/\Rel E.P σ' ⟨t2,A.next+1⟩ w'/\Ext σ A w σ' ⟨t2,A.next+1⟩ w':=by
    intro K Y u p ho c3 a8 Z c5 d1
    have d4:Builtin.nextslicecap (n+news.length) Y*f.bytes<=281474976710656:=by
      have h1:=Room.nextslicecap_le' d1
      calc Builtin.nextslicecap (n+news.length) Y*f.bytes<=2*(n+news.length)*f.bytes:=Hr _ h1
        _=2*((n+news.length)*f.bytes):=JX _ _ _
        _<=281474976710656:=by omega
    have a1:=run_append_grow_src w t tx ty X f z a6 hi hz K n Y p c5 x' news.length g hS d1 (by omega) d4
    have b4:=grownCap_ge w (n+news.length) Y X
    generalize grownCap w (n+news.length) Y X=cap at a1 b4
    have R0:Rel E.P σ ⟨t1,A.next⟩ w:=R.dead M
    have C:=ch (x:=(w.heap.size,0,cap)) (R0.fresh A.next (GK _))
    have a3:(els.drop (gLo f.size o)++news).length=n+news.length:=by rw[Gx,<-a8,Z]
    refine⟨_,_,upd σ A.next (w.heap.size,0,cap),a1,?_,?_,?_⟩
    · have H:=VR.gsMk (σ:=upd σ A.next (w.heap.size,0,cap)) (lo:=0) (n:=n+news.length) (k:=cap) (m:=m) bF hg b4 (JR (H8 _))
      simpa using H
    · refine R0.alloc (ob:=.cells ((p++g).toArray++Builtin.zeroCells z.cells (cap-(n+news.length))) X) I (R0.fresh _ (GK _)) (IC _) (I1 _) ?_ rfl
      have c4:=td (P:=E.P) (σ':=upd σ A.next (w.heap.size,0,cap)) (els:=els.drop (gLo f.size o)) (tl:=news) (c':=p++g) (e:=X) (cap:=cap) hi b2 (λx D=>by
        rcases GW.1 D with D|D
        · exact c3 x (by rw[a8];exact D)
        · exact J x D) (by rw[a3];exact b4) (by rw[bz,<-a8];exact(ho.mono C).append (q.mono C))
      rw[a3]at c4
      exact c4
    · exact(Ext.dead M).trans (Ext.alloc R0 I (I1 _) (ob:=.cells ((p++g).toArray++Builtin.zeroCells z.cells (cap-(n+news.length))) X) rfl rfl rfl rfl)
  rcases b8 hs hg with⟨rfl,a,rfl⟩|⟨b,d,c,lo,k,a5,rfl,hn,hc,rfl⟩;have V:els.drop (gLo f.size o)=[]:=HZ (by omega);by_cases e0:news.length=0;have d0:news=[]:=Hb e0;subst d0;have a9:g=[]:=by have:=q.length;simpa[am]using this
  subst a9;rw[V]at I;obtain⟨q1,q2⟩:=Rel.nilGro (R.dead M) I;exact⟨_,w,_,run_append_nothing w t tx ty X f a6 hi a 0 0 (GK _) x' hS,VR.gs0Mk _ _ m a hg,q1,(Ext.dead M).trans q2⟩;exact a4 a 0 [] [] .nil (by simp) V.symm rfl (by cases a<;>simp[Builtin.firstCells,loadCells,loadCellsFrom]) (by omega);rw[U,lp b3]at b5;rw[U,lp b3]at I;obtain⟨Q,l0,h0,g1,g2,g3,g4,g5,g6⟩:=R.at hB rfl a5;rw[hE]at g3 g4 g6;rw[c0]at g4 g5;have b0:(lo+k)*f.size=lo*f.size+k*f.size:=Ib _ _ _;have e9:(lo+k)*f.size<=c*f.size:=Hr _ hc;rw[b0]at e9;have f4:=ap g4;have O:(els.drop lo).length=n:=by simp;omega
  have f0:am (els.drop lo)=(am els).drop (lo*f.size):=(bT lo g4).symm;have r:∀ x∈els.drop lo,x.cells.size=f.size:=λx D=>g4 x (Ig D);have S:∀ (i:Nat) v,(am (els.drop lo))[i]? =some v->∃ v',Q[d+lo*f.size+i]? =some v'/\VR σ v v':=λi v H=>by rw[f0,GV]at H;obtain⟨v',e1,e2⟩:=g3 _ v H;exact⟨v',by rw[Hs];exact e1,e2⟩
  by_cases s:n+news.length<=k;have c6:g.length=news.length*f.size:=by rw[q.length,ap J]
  have a2:(n+news.length)*f.size<=k*f.size:=Hr _ s;rw[Ib]at a2;have a7:d+lo*f.size+n*f.size+g.length<=Q.size:=by omega
  obtain⟨w',r1,r2,r3,r4,r5,r6,r7,r8⟩:=cO (P:=E.P) g 0 w b (d+lo*f.size+n*f.size) Q X l0 h0 g1 (by omega) g2 (q.cellv d5);have C:σ.sub (upd σ A.next (b,d+lo*f.size,k)):=ch (R.fresh _ (GK _));refine⟨.slice (some ⟨b,d+lo*f.size,none⟩) (n+news.length) k,w',upd σ A.next (b,d+lo*f.size,k),?_,?_,?_,Ext.move R hB rfl a5 M I r2 r3 r5 r6 r7⟩;rw[U];rcases hk with⟨e',hk⟩|hk<;>simp[Builtin.append_,I5 a6,I5 hk,sizeOf,typeInfo,hi,hS.len,s,hS.cells,aL,r1];have H:=VR.gsMk (σ:=upd σ A.next (b,d+lo*f.size,k)) (lo:=0) (n:=n+news.length) (k:=k) (m:=m) bF hg s (JR (H8 _));simpa using H;refine R.move hB rfl a5 M I rfl r2 r3 ?_;rw[r4];have c1:d+lo*f.size+n*f.size+g.length<=Q.toList.length:=by simpa using a7
  refine⟨_,l0,h0,rfl,λi d2=>g2 i (by rw[H0,bm (by simpa using a7)]at d2;simpa using d2),λi v N=>?_,λx D=>?_,?_,by rw[Gx,O];exact s⟩;have d3:(over Q.toList (d+lo*f.size+n*f.size+0) g).toArray[d+lo*f.size+i]? =(over Q.toList (d+lo*f.size+n*f.size) g)[d+lo*f.size+i]?:=by simp
  rw[d3,b7 c1];rw[bz,G0,ap r,O]at N;by_cases k1:i<n*f.size;rw[Gw k1]at N;rw[Gw (by omega)];obtain⟨v',e1,e2⟩:=S i v N;exact⟨v',by simpa using e1,e2.mono C⟩;rw[D' k1]at N;rw[D' (by omega)];have e4:i-n*f.size<(am news).length:=(GE.1 N).1;rw[ap J]at e4;rw[Gw (by rw[c6];omega)];obtain⟨v',e1,e2⟩:=q.get N;have ei:d+lo*f.size+i-(d+lo*f.size+n*f.size)=i-n*f.size:=by omega
  exact⟨v',by rw[ei];exact e1,e2.mono C⟩;rw[c0];rcases GW.1 D with D|D;exact r x D;exact J x D;rw[H0,bm (by simpa using a7),c0];have h9:Q.toList.length=Q.size:=by simp
  omega;have Z:VRs σ (am (els.drop lo)) ((Q.toList.drop (d+lo*f.size)).take (n*f.size)):=by
   have a2:n*f.size<=k*f.size:=Hr _ hn;refine VRs.of_get (by rw[ap r,O];simp;omega) λj v H=>?_;have hj:j<n*f.size:=by have:=(GE.1 H).1;rwa[ap r,O]at this
   obtain⟨v',e1,e2⟩:=S j v H;exact⟨v',by rw[GZ,Gw hj,GV];simpa using e1,e2⟩
  have e3:((Q.toList.drop (d+lo*f.size)).take (n*f.size)).length=n*f.size:=by rw[Z.length,ap r,O]
  rw[U];refine a4 (some ⟨b,d+lo*f.size,none⟩) k (els.drop lo) _ Z r (by rw[U,lp b3]) O ?_ (by omega);show(loadCells ⟨b,d+lo*f.size,none⟩ (n*f.size)).run E.P w.drew=_;have:=uH (P:=E.P) (w:=w) (b:=b) (o:=d+lo*f.size) (l:=(Q.toList.drop (d+lo*f.size)).take (n*f.size)) (λj v H=>by
   rw[GZ]at H;split at H;rw[GV]at H;have:Q[d+lo*f.size+j]? =some v:=by simpa using H
   simp[World.cell?,g1,this];cases H) w.drew rfl
  rw[e3]at this;exact this;cases h;cases h;cases h;cases h;cases h;cases h
def m5(E:Env)(A:AH)(ts:List TypeId)(B o n m:Nat)(x:Value):Option (Value×AH):=bif E.sym then none else none
theorem tL(f:E.Ok)(R:Rel E.P σ A w){o:Nat}(k:VR σ (.slice (some ⟨B,o,none⟩) n m) s')(g:VR σ x x')(h:m5 E A ts.toList B o n m x=some (v,A')):
 ∃v' w' σ',(Builtin.append_ ts ty #[s',x']).run E.P w=.ok v' w'/\VR σ' v v'/\Rel E.P σ' A' w'/\Ext σ A w σ' A' w':=by unfold m5 at h;cases a:E.sym<;>rw[a]at h<;>cases h
theorem Rel.retell(R:Rel P σ A w){f:Nat}{o:AObj}{t:T AObj}(U:A.t.get B=some o)(s:T.set f A.t B o2=some t)(Z:o2.own=o.own)(V:o2.here=o.here)(Y:o2.nilOk=o.nilOk)(M:∀ b d c:Nat,OR P σ w.heap[b]? d c o->OR P σ w.heap[b]? d c o2):
 Rel P σ ⟨t,A.next⟩ w/\Ext σ A w σ ⟨t,A.next⟩ w:=by
 have S:=Hp s;have g:∀ {a:Nat}{k:AObj},t.get a=some k->∃ p,A.t.get a=some p/\k.own=p.own/\k.here=p.here:=fun {a k} h=>by rw[S]at h;by_cases e:a=B;subst e;rw[Gw rfl]at h;cases h;exact⟨o,U,Z,V⟩;rw[D' e]at h;exact⟨k,h,rfl,rfl⟩
 refine⟨⟨λa k h C=>?_,λB1 B2 o1 o2 x x' z u N C O K J=>?_,R.lt,R.fresh,R.ro,λa k x h N K=>?_,R.nl⟩,⟨λ_ _=>rfl,GK _,GK _,λ_ _ _=>rfl,λa k x z u Q=>?_,λa k x z u Q=>?_,rfl,rfl,rfl,λ_ _ h=>h,λ_ _ h=>.inl h,λ_ _=>Jb⟩⟩;have h:t.get a=some k:=h;rw[S]at h;by_cases e:a=B;subst e;rw[Gw rfl]at h;cases h;rcases R.obj0 a o U (by rw[<-V];exact C)with⟨b,d,c,I,H⟩|⟨I,H⟩;exact .inl ⟨b,d,c,I,M b d c H⟩;exact .inr ⟨Y.trans I,H⟩;rw[D' e]at h;exact R.obj0 a k h C;obtain⟨l,q,r,D⟩:=g z;obtain⟨X,b1,b2,b3⟩:=g u;exact R.inj B1 B2 l X x x' q b1 (r▸N) (b3▸C) O K J;obtain⟨l,q,r,D⟩:=g h;exact R.sep a l x q (r▸N) K;obtain⟨l,q,r,D⟩:=g z;exact .inr ⟨a,l,x,q,r▸u,Q,rfl⟩;obtain⟨l,q,r,D⟩:=g z;exact .inr ⟨a,l,x,q,D▸u,Q,rfl⟩
theorem Rel.retellAt(R:Rel P σ A w){f:Nat}{o:AObj}{t:T AObj}(U:A.t.get B=some o)(s:T.set f A.t B o2=some t)(Z:o2.own=o.own)(V:o2.here=o.here)(Y:o2.nilOk=o.nilOk)(M:∀ b d c:Nat,σ B=some (b,d,c)->OR P σ w.heap[b]? d c o->OR P σ w.heap[b]? d c o2):
 Rel P σ ⟨t,A.next⟩ w/\Ext σ A w σ ⟨t,A.next⟩ w:=by
 have S:=Hp s;have g:∀ {a:Nat}{k:AObj},t.get a=some k->∃ p,A.t.get a=some p/\k.own=p.own/\k.here=p.here:=fun {a k} h=>by rw[S]at h;by_cases e:a=B;subst e;rw[Gw rfl]at h;cases h;exact⟨o,U,Z,V⟩;rw[D' e]at h;exact⟨k,h,rfl,rfl⟩
 refine⟨⟨λa k h D=>?_,λB1 B2 o1 o2 x x' z u N D O K J=>?_,R.lt,R.fresh,R.ro,λa k x h N K=>?_,R.nl⟩,⟨λ_ _=>rfl,GK _,GK _,λ_ _ _=>rfl,λa k x z u Q=>?_,λa k x z u Q=>?_,rfl,rfl,rfl,λ_ _ h=>h,λ_ _ h=>.inl h,λ_ _=>Jb⟩⟩;have h:t.get a=some k:=h;rw[S]at h;by_cases e:a=B;subst e;rw[Gw rfl]at h;cases h;rcases R.obj0 a o U (by rw[<-V];exact D)with⟨b,d,c,C,I⟩|⟨C,I⟩;exact .inl ⟨b,d,c,C,M b d c C I⟩;exact .inr ⟨Y.trans C,I⟩;rw[D' e]at h;exact R.obj0 a k h D;obtain⟨l,q,r,H⟩:=g z;obtain⟨X,b1,b2,b3⟩:=g u;exact R.inj B1 B2 l X x x' q b1 (r▸N) (b3▸D) O K J;obtain⟨l,q,r,H⟩:=g h;exact R.sep a l x q (r▸N) K;obtain⟨l,q,r,H⟩:=g z;exact .inr ⟨a,l,x,q,r▸u,Q,rfl⟩;obtain⟨l,q,r,H⟩:=g z;exact .inr ⟨a,l,x,q,H▸u,Q,rfl⟩
def splc(l:Lh)(lo:Nat)(news:Lh):Lh:=l.take lo++(news++l.drop (lo+news.length))
def mY(E:Env)(A:AH)(ts:List TypeId)(B o n m B2 o2 n2 m2:Nat):Option (Value×AH):=bif E.sym then none else none
theorem qp(h:∀ x∈els,x.cells.size=sz)(a:∀ x∈news,x.cells.size=sz):am (splc els lo news)=over (am els) (lo*sz) (am news):=by unfold splc over;rw[bz,bz,cd lo h,ap a,<-Ib,bT (lo+news.length) h,HT]
theorem pr(h:lo+news.length<=els.length):(splc els lo news).length=els.length:=by unfold splc;simp only[Gx,Hh,Jd];omega
theorem tI(p:E.Ok)(R:Rel E.P σ A w){o B2 o2 a f:Nat}(l:as[0]? =some x')(k:as[1]? =some y')
 (r:VR σ (.slice (some ⟨B,o,none⟩) n m) x') (q:VR σ (.slice (some ⟨B2,o2,none⟩) a f) y') (h:mY E A ts.toList B o n m B2 o2 a f=some (v,A')):
 ∃w',(Builtin.copy_ ts ty as).run E.P w=.ok v w'/\flat v=true/\Rel E.P σ A' w'/\Ext σ A w σ A' w':=by unfold mY at h;cases g:E.sym<;>rw[g]at h<;>cases h
def nj(E:Env)(A:AH)(ts:List TypeId)(d s:Value):Option (Value×AH):=
 match d,s with
 | .slice (some ⟨B,o,none⟩) n m,.slice (some ⟨B2,o2,none⟩) n2 m2=>(match isG m with
   |true=>mY E A ts B o n m B2 o2 n2 m2
   |false=>zS E A ts (.slice (some ⟨B,o,none⟩) n m) (.slice (some ⟨B2,o2,none⟩) n2 m2))
 |d,s=>zS E A ts d s
theorem tU(g:E.Ok)(R:Rel E.P σ A w)(f:as[0]? =some x')(a:as[1]? =some y')(l:VR σ x x')(k:VR σ y y')(h:nj E A ts.toList x y=some (v,A')):
 ∃w',(Builtin.copy_ ts ty as).run E.P w=.ok v w'/\flat v=true/\Rel E.P σ A' w'/\Ext σ A w σ A' w':=by unfold nj at h;split at h;split at h;exact tI g R f a l k h;exact xl g R f a l k h;exact xl g R f a l k h
def CO(B:Nat)(x:Value):Bool:=match x with| .slice (some ⟨B2,_,none⟩) _ _=>Nat.beq B B2|_=>false
def fi(E:Env)(A:AH)(ts:List TypeId)(s x:Value):Option (Value×AH):=
 match s with
 | .slice (some ⟨B,o,none⟩) n m=>(match isG m with
   |true=>bif CO B x then m5 E A ts B o n m x else oH E A ts B o n m x
   |false=>ez E A ts s x)
 |_=>ez E A ts s x
theorem xP(a:E.Ok)(R:Rel E.P σ A w){s:Value}(g:VR σ s s')(f:VR σ x x')(h:fi E A ts.toList s x=some (v,A')):
 ∃v' w' σ',(Builtin.append_ ts ty #[s',x']).run E.P w=.ok v' w'/\VR σ' v v'/\Rel E.P σ' A' w'/\Ext σ A w σ' A' w':=by unfold fi at h;split at h;split at h;rw[Bool.cond_eq_ite]at h;split at h;exact tL a R g f h;exact wG a R g f h;exact pe a R g f h;exact pe a R g f h
abbrev _root_.Go.Hf:=@Array.getD_eq_getD_getElem?
abbrev _root_.Go.Iq:=@Option.bind_some
def okB:Value->Bool
 | .int .u8 (.ofNat n)=>Nat.blt n 256
 |_=>false
def yc(E:Env)(A:AH)(ats:List TypeId)(p n:Value):Option (Value×AH):=bif E.sym then none else none
theorem BX(l:E.Ok)(R:Rel E.P σ A w){a:Array TypeId}{p n f g:Value}(q:VR σ p f)(r:VR σ n g)(h:yc E A a.toList p n=some (v,A')):
 ∃w',(Builtin.unsafeString_ a ty #[f,g]).run E.P w=.ok v w'/\flat v=true/\Rel E.P σ A' w'/\Ext σ A w σ A' w':=by unfold yc at h;cases k:E.sym<;>rw[k]at h<;>cases h
def effB(E:Env)(A:AH)(ρ:Operand->Lj)(b:Builtin)(c:Call):Option (Value×AH):=
 match b with
 | .append=>(match c.args.toList with
   | [x,y]=>(match ρ x,ρ y with|some s,some v=>fi E A c.argTypes.toList s v|_,_=>none)
   |_=>none)
 | .delete=>(match c.args.toList with
   | [x,y]=>(match ρ x,ρ y with|some m,some k=>(match delA E A c.argTypes.toList m k with|some A'=>some (undef,A')|none=>none)|_,_=>none)
   |_=>none)
 | .clear=>(match c.args.toList with
   | [x]=>(match ρ x with|some m=>(match xr E A c.argTypes.toList m with|some A'=>some (undef,A')|none=>none)|none=>none)
   |_=>none)
 | .copy=>(match c.args.toList with
   | [x,y]=>(match ρ x,ρ y with|some d,some s=>nj E A c.argTypes.toList d s|_,_=>none)
   |_=>none)
 | .unsafeString=>(match c.args.toList with
   | [x,y]=>(match ρ x,ρ y with|some p,some n=>yc E A c.argTypes.toList p n|_,_=>none)
   |_=>none)
 |_=>none
def effA(E:Env)(A:AH)(ρ:Operand->Lj)(op:Op):Option (Value×AH):=
 match op with
 | .store t a x=>(match ρ a,ρ x with|some p,some v=>(match iQ E A t p v with|some A'=>some (undef,A')|none=>none)|_,_=>none)
 | .mapUpdate t m k x=>(match ρ m,ρ k,ρ x with|some m,some k,some v=>(match gd E A t m k v with|some A'=>some (undef,A')|none=>none)|_,_,_=>none)
 | .insert t m k x=>(match ρ m,ρ k,ρ x with|some m,some k,some v=>(match gd E A t m k v with|some A'=>some (undef,A')|none=>none)|_,_,_=>none)
 | .convert s d x=>(match ρ x with|some v=>s2bA E A s d v|none=>none)
 | .range t x=>(match ρ x with|some v=>uU E A t v|none=>none)
 | .next it b=>(match ρ it with|some v=>Df A v b|none=>none)
 | .call c=>(match c.callee with| .builtin b=>effB E A ρ b c|_=>none)
 |_=>none
theorem jb{a g :Type}{l:Array a}{x y: a}(h:l.toList=[x,y])(f: a -> g):l.map f= #[f x,f y]:=by apply Hv.1;rw[I6,h];rfl
theorem vm{a g :Type}{l:Array a}{x: a}(h:l.toList=[x])(f: a -> g):l.map f= #[f x]:=by apply Hv.1;rw[I6,h];rfl
theorem Fx(r:E.Ok)(R:Rel E.P σ A w)(a:OpR σ ρ ρ'){b:Builtin}{c:Call}{cs:Array Bool}
 (h:effB E A ρ b c=some (v,A')):Good E.P σ A w ((builtin b c.argTypes ty cs (c.args.map ρ')).run E.P w) v A':=by unfold effB at h;split at h;split at h;rename_i x y f;split at h;rename_i s u z I;obtain⟨v',g,σ',q,p,l,H⟩:=xP r R (ty:=ty) (a x s z) (a y u I) h;refine Good.value (v':=v') (w':=g) ?_ p l H;rw[jb f];simp[builtin,q];cases h;cases h;split at h;rename_i x y f;split at h;rename_i m k D J;split at h;rename_i K hd;cases h;obtain⟨g,q,p,l⟩:=del_ok r R (ty:=ty) (as:= #[ρ' x,ρ' y]) rfl rfl (a x m D) (a y k J) hd;refine Good.value (v':=.tuple #[]) (w':=g) ?_ (cz σ) p l;rw[jb f];simp[builtin,q];cases h;cases h;cases h;split at h;rename_i x f;split at h;rename_i m D;split at h;rename_i K hd;cases h;obtain⟨g,q,p,l⟩:=zW r R (ty:=ty) (as:= #[ρ' x]) rfl (a x m D) hd;refine Good.value (v':=.tuple #[]) (w':=g) ?_ (cz σ) p l;rw[vm f];simp[builtin,q];cases h;cases h;cases h;split at h;rename_i x y f;split at h;rename_i d s hd z;obtain⟨g,q,C,p,l⟩:=tU r R (ty:=ty) (as:= #[ρ' x,ρ' y]) rfl rfl (a x d hd) (a y s z) h;refine Good.value (v':=v) (w':=g) ?_ (bI C σ) p l;rw[jb f];simp[builtin,q];cases h;cases h;split at h;rename_i x y f;split at h;rename_i d s hd z;obtain⟨g,q,C,p,l⟩:=BX r R (ty:=ty) (a x d hd) (a y s z) h;refine Good.value (v':=v) (w':=g) ?_ (bI C σ) p l;rw[jb f];simp[builtin,q];cases h;cases h;cases h
theorem oR(D:E.Ok)(R:Rel E.P σ A w)(g:OpR σ ρ ρ')
 (h:effA E A ρ o.op=some (v,A')):Good E.P σ A w ((execOp ρ' o).run E.P w) v A':=by unfold effA at h;unfold execOp;split at h;rename_i t a x f;rw[f];split at h;rename_i p u S C;split at h;rename_i O I;cases h;obtain⟨l,z,r,q⟩:=yl D R (g a p S) (g x u C) I;exact Good.skip (w':=l) (by simp[z]) r q;cases h;cases h;rename_i t m k x f;rw[f];split at h;rename_i J K u M N C;split at h;rename_i O I;cases h;obtain⟨l,z,r,q⟩:=ox D R (g m J M) (g k K N) (g x u C) I;exact Good.skip (w':=l) (by simp[z]) r q;cases h;cases h;rename_i t m k x f;rw[f];split at h;rename_i J K u M N C;split at h;rename_i O I;cases h;obtain⟨l,z,r,q⟩:=ox D R (g m J M) (g k K N) (g x u C) I;exact Good.skip (w':=l) (by simp[z]) r q;cases h;cases h;rename_i s d x f;rw[f];split at h;rename_i u C;obtain⟨v',l,σ',z,r,q,H⟩:=s2b_ok D R (g x u C) h;exact Good.value (v':=v') (w':=l) (by simp[z]) r q H;cases h;rename_i t x f;rw[f];split at h;rename_i u C;obtain⟨v',l,σ',z,r,q,H⟩:=yw D R (g x u C) h;exact Good.value (v':=v') (w':=l) (by simp[z]) r q H;cases h;rename_i Q b f;rw[f];split at h;rename_i u C;obtain⟨v',l,z,r,q,H⟩:=De D R (ty:=o.type) (g Q u C) h;exact Good.value (v':=v') (w':=l) (by simp[z]) r q H;cases h;rename_i c f;rw[f];split at h;rename_i b U;have:=Fx D R g (ty:=o.type) (cs:=c.args.map fun| .const _=>true|_=>false) h;simp only[resolve,U,GN,HB,GJ,invoke];exact this;cases h;cases h
def Dh(E:Env)(t:TypeId)(name:String):Option FuncId:=bif E.sym then none else none
theorem Dg(k:E.Ok){a:String}{f:FuncId}(h:Dh E t a=some f)(v:Value)(args:Array Value)(w:World):
 (callMethod (.iface t v) a args).run E.P w=(callFunc f (#[v]++args)).run E.P w:=by unfold Dh at h;cases g:E.sym<;>rw[g]at h<;>cases h
def i6(E:Env)(ρ:Operand->Lj)(op:Op):Option (FuncId×Lh):=
 match op with
 | .call c=>(match c.callee with
   | .value f=>(match ρ f,mapO ρ c.args.toList with
     |some (.func (.func g) ⟨first⟩ ⟨cap⟩),some as=>some (g,first++as++cap)
     |_,_=>none)
   | .invoke r name=>(match ρ r,mapO ρ c.args.toList with
     |some (.iface t v),some as=>(match Dh E t name with|some g=>some (g,v::as)|none=>none)
     |_,_=>none)
   |_=>none)
 |_=>none
theorem so(R:E.Ok)(p:OpR σ ρ ρ'){g:FuncId}{args:Lh}
 (h:i6 E ρ o.op=some (g,args)):∃ l,VRs σ args l/\∀ w:World,(execOp ρ' o).run E.P w=(callFunc g ⟨l⟩).run E.P w:=by
 unfold i6 at h;unfold execOp;split at h;rename_i c D;rw[D];split at h;rename_i f J;split at h;rename_i Q first N as H q
 simp only[osI,GC]at h;obtain⟨rfl,rfl⟩:=h;have u:=p f _ H;obtain⟨a,k,X,I,K⟩:∃ a k,ρ' f=.func (.func Q) ⟨a⟩ ⟨k⟩/\VRs σ first a/\VRs σ N k:=by
  generalize ρ' f=y at u;cases u with
  |func Z Y z U=>exact⟨_,_,rfl,z,U⟩
 refine⟨a++c.args.toList.map ρ'++k,(I.append (dV p q)).append K,λw=>?_⟩;simp only[resolve,J,X,Deferred.ofValue,GN,HB,GJ,invoke];congr 2;apply Hv.1;simp;cases h;rename_i r O J;split at h;rename_i t v as S q;split at h;rename_i Q H;simp only[osI,GC]at h;obtain⟨rfl,rfl⟩:=h;have s:=p r _ S;obtain⟨v',M,C⟩:∃ v',ρ' r=.iface t v'/\VR σ v v':=by
  generalize ρ' r=y at s;cases s with
  |iface _ z=>exact⟨_,rfl,z⟩
 refine⟨v'::c.args.toList.map ρ',.cons C (dV p q),λw=>?_⟩;have V:(#[Value.iface t v']++c.args.map ρ')[0]? =some (.iface t v'):=by rw[IY];rfl
 have z:(#[Value.iface t v']++c.args.map ρ').extract 1 (#[Value.iface t v']++c.args.map ρ').size=c.args.map ρ':=by apply Hv.1;simp[IL]
 simp only[resolve,J,M,GN,HB,GJ,invoke,V,z];rw[Dg R H];congr 2;apply Hv.1;simp;cases h;cases h;cases h;cases h
theorem dD(a:E.Ok){f:FuncId}{g:Func}(h:E.fn f=some g)(args:Array Value)(w:World):(callFunc f args).run E.P w=.ok (.enter f args) w:=by obtain⟨l,k⟩:=a.fnb f g h;unfold callFunc;rw[GN,run_program,GJ,a.fn f g h];simp only[k,l,HO,HV];rfl
def ev(E:Env)(F:T Value):Operand->Lj
 | .tmp t=>F.get t
 | .const v=>bif flat v then some v else none
 | .global g=>(match E.gl g with|some cs=>some (plc cs)|none=>none)
 | .func f=>some (.func (.func f) ⟨[]⟩ ⟨[]⟩)
def Glob(E:Env)(σ:Sig):Prop:=∀ g cs,E.gl g=some cs->cs.all scal=true/\0<cs.length/\∃ (c:Array Value) (e:TypeId) (fz:Nat×Nat),σ.ro g=some (.cells c e fz)/\c.toList.take cs.length=cs
theorem Glob.sub(h:Glob E σ)(a:σ.sub σ'):Glob E σ':=λg r f=>by obtain⟨q,p,c,e,fz,l,k⟩:=h g r f;exact⟨q,p,c,e,fz,a.ro _ _ l,k⟩
theorem AF{g:Nat}{cs:Lh}{c:Array Value}(f:cs.all scal=true)(p:0<cs.length)(h:σ.ro g=some (.cells c e fz))(q:c.toList.take cs.length=cs):VR σ (plc cs) (.pointer (some ⟨g,0,none⟩)):=by
 have k:∀ x∈cs,x.cells= #[x]:=λx a=>by have:=Hc.1 f x a;cases x<;>first|rfl|simp[scal]at this
 have u:am cs=cs:=by
  clear p q f;induction cs with
  |nil=>rfl
  |cons x l r=>rw[aV,r λy s=>k y (by simp[s]),k x (by simp)];rfl
 have:=VR.datP (σ:=σ) (b:=g) (o:=0) (sz:=1) (i:=0) (j:=0) (els:=cs) h (λx a=>by rw[k x a];rfl) p (by omega) (by rw[u,Jc,Jq,q];exact bu f σ)
 exact this
def slot(F:T Value)(t:Nat):Lj:=F.get t
def VO(σ:Sig)(o:Lj)(v':Value):Prop:=∀ v,o=some v->VR σ v v'
theorem VO.mono(a:σ.sub σ'){o:Lj}(h:VO σ o v'):VO σ' o v':=λv e=>(h v e).mono a
structure FR (σ:Sig) (F:T Value) (n:Nat) (a:Act):Prop where
 size:a.tmps.size=n
 val:∀ t,VO σ (slot F t) (a.tmps.getD t undef)
 defers:a.defers=[]
theorem FR.mono(f:σ.sub σ'){a:Act}(h:FR σ F n a):FR σ' F n a:=⟨h.size,λt=>(h.val t).mono f,h.defers⟩
theorem oO(p:Glob E σ){a:Act}(l:∀ t,VO σ (slot F t) (a.tmps.getD t undef)):OpR σ (ev E F) a.eval:=by
 intro x v h;cases x with
 |tmp t=>exact l t v h
 |const u=>simp only[ev]at h;cases k:flat u;rw[k]at h;simp at h;rw[k]at h;simp only[C',osI]at h;subst h;exact bI k σ
 | global g=>
  simp only[ev]at h;cases k:E.gl g with
  |none=>rw[k]at h;simp at h
  |some C=>rw[k]at h;cases h;obtain⟨z,s,c,e,fz,r,q⟩:=p g C k;exact AF z s r q
 |func f=>simp only[ev,osI]at h;subst h;exact .func _ rfl .nil .nil
def put(n:Nat)(F:T Value)(dst:Option Tmp)(v:Value):Option (T Value):=
 match dst with
 |none=>some F
 |some d=>bif Nat.blt d n then T.set FU F d v else none
theorem mw{p:T Value}{a:Act}{g:Option Tmp}(h:FR σ F n a)(q:VR σ v v')(f:put n F g v=some p):FR σ p n (a.put g v'):=by
 cases g with
 |none=>simp only[put,osI]at f;subst f;exact h
 |some d=>
 simp only[put]at f;cases l:Nat.blt d n;rw[l]at f;simp at f;rw[l]at f;simp only[C']at f;rw[blt_eq,GQ]at l;have r:=Hp f;refine⟨by simp[Act.put,h.size],λt=>?_,h.defers⟩;intro u k;unfold slot at k;rw[r]at k;by_cases e:t=d;subst e;simp only[Ie,osI]at k;subst k;simp only[Act.put];have:(a.tmps.setIfInBounds t v').getD t undef=v':=by rw[Hf,H7];simp[h.size,l]
 rw[this];exact q;rw[D' e]at k;have:(a.tmps.setIfInBounds d v').getD t undef=a.tmps.getD t undef:=by rw[Hf,H7,D' (λs=>e s.symm),Hf]
 simp only[Act.put];rw[this];exact h.val t u k
def cw (ops:List Oper)(F:T Value)(o:Oper):Option Bool:=
 match o.guard with
 |none=>some true
 | some (j,want)=>(match nth ops j with
   | some oj=>(match oj.dst with
     | some d=>(match slot F d with
       |some (.bool b)=>some (match b,want with|true,true=>true|false,false=>true|_,_=>false)
       |some _=>some false
       |none=>none)
     |none=>some false)
   |none=>some false)
theorem VR.bool_iff(h:VR σ v v')(b:Bool):v=.bool b↔v'=.bool b:=by cases h<;>simp
theorem lS{ops:Array Oper}{a:Act}(I:∀ j f k d,o.guard=some (j,f)->ops[j]? =some k->k.dst=some d->VO σ (slot F d) (a.tmps.getD d undef)){r:Bool}(g:cw ops.toList F o=some r):
 Region.wanted o (yielded ops a.tmps)=r:=by
 unfold cw at g;unfold Region.wanted;cases z:o.guard with
 |none=>rw[z]at g;cases g;rfl
 |some H=>
 obtain⟨j,f⟩:=H;rw[z]at g;have K:ops.toList[j]? =ops[j]?:=by simp
 simp only[yielded,aN,K]at g ⊢;cases s:ops[j]? with
 |none=>simp only[s,osI]at g;subst g;simp
 |some k=>
 simp only[s]at g;simp only[Iq];cases hd:k.dst with
 |none=>simp only[hd,osI]at g;subst g;simp
 |some d=>
 simp only[hd]at g;simp only[Iq];have h:=I j f k d z s hd;have l:∀ b,a.tmps[d]? =some (.bool b)↔a.tmps.getD d undef=.bool b:=by
  intro b;rw[Hf];cases C:a.tmps[d]? with
  |none=>simp[undef]
  |some x=>simp
 cases p:slot F d with
 |none=>simp[p]at g
 |some u=>
 have D:=λb=>VR.bool_iff (h u p) b;cases u with
 |bool b=>simp only[p,osI]at g;subst g;rw[(l b).2 ((D b).1 rfl)];cases b<;>cases f<;>rfl
 |_=>
 simp only[p,osI]at g;subst g;have q:∀ b,a.tmps[d]?≠some (.bool b):=by intro b J;have:=(D b).2 ((l b).1 J);cases this
 cases C:a.tmps[d]? with
 |none=>cases f<;>rfl
 |some x=>cases x<;>first|exact absurd C (q _)|(cases f<;>rfl)
abbrev _root_.Go.Je:=@List.range'_succ
abbrev bV:=FuncId->Lh->AH->Option (Value×AH)
def fp(E:Env)(call:bV):Prop:=∀ f args A v A',call f args A=some (v,A')->∀ σ w args',Rel E.P σ A w->Glob E σ->VRs σ args args'->
 Calls E.P f ⟨args'⟩ w (λe w'=>∃ v' σ',e=.returned v'/\VR σ' v v'/\Rel E.P σ' A' w'/\Ext σ A w σ' A' w')
def Does(E:Env)(σ:Sig)(A:AH)(w:World)(o:Oper)(a:Act)(v:Value)(A':AH):Prop:=
 ∀(K:Act->World->Prop) (Q:Exit->Act->World->Prop),(∀v' w' σ',VR σ' v v'->Rel E.P σ' A' w'->Ext σ A w σ' A' w'->K (a.put o.dst v') w')->o.wp E.P a w K Q
theorem aR{a:Act}(G:Good E.P σ A w ((execOp a.eval o).run E.P w) v A'):Does E σ A w o a v A':=by intro K Q g;obtain⟨r,v',f,σ',q,p,l,k,h⟩:=G;unfold Oper.wp;rw[q];rcases p with rfl|⟨rfl,rfl⟩;exact g v' f σ' l k h;exact g undef f σ' l k h
theorem lE(g:E.Ok)(R:Rel E.P σ A w){a:Act}(f:OpR σ ρ a.eval)(h:quiet E A ρ o.type o.op=some v):Does E σ A w o a v A:=by obtain⟨v',l,k⟩:=qW g R f h;exact aR (Good.value l k R (Ext.refl _ _ _))
def c8 (call:bV)(E:Env)(A:AH)(ρ:Operand->Lj)(op:Op):Option (Value×AH):=
 match effA E A ρ op with
 |some r=>some r
 | none =>(match i6 E ρ op with
   | some (g,args)=>(match E.fn g with
     |some _=>call g args A
     | none=>(match E.ext g with
       |some x=>x args A
       |none=>none))
   |none=>none)
theorem sr(s:E.Ok){l:bV}(N:fp E l)(R:Rel E.P σ A w)(J:Glob E σ){a:Act}(q:OpR σ ρ a.eval)
 (h:c8 l E A ρ o.op=some (v,A')):Does E σ A w o a v A':=by unfold c8 at h;split at h;rename_i r I;cases h;exact aR (oR s R q I);split at h;rename_i g p z;obtain⟨f,C,k⟩:=so s q z;split at h;rename_i X u;intro K Q O;unfold Oper.wp;rw[k,dD s u];show Calls E.P g ⟨f⟩ w _;refine(N g p A v A' h σ w f R J C).mono λe D M=>?_;obtain⟨v',σ',rfl,V,U,S⟩:=M;exact O v' D σ' V U S;split at h;rename_i x H;refine aR ?_;rw[k];exact s.ext g x p A v A' H h σ w f R C;cases h;cases h
theorem lF(q:E.Ok)(R:Rel E.P σ A w){a:Act}(l:OpR σ ρ a.eval){ob:AObj}{fv:Nat->Value}
 (h:bX E ρ o.op=some (ob,fv)) (g:cK A ob=some A'):Does E σ A w o a (fv A.next) A':=by
 obtain⟨k,z,u,s,r,C⟩:=nA q l h;unfold cK at g;split at g;rename_i t p;cases g;have f:σ A.next=none:=R.fresh _ (GK _)
 exact aR (Good.value (u w) (r (upd σ A.next (w.heap.size,0,0)) A.next w.heap.size 0 bF) (R.alloc p f (IC _) (I1 _) (s _ (ch f)) rfl) (Ext.alloc R p (I1 _) (ob:=k) rfl rfl rfl rfl));cases g
def opA(call:bV)(E:Env)(A:AH)(ρ:Operand->Lj)(ty:TypeId)(op:Op):Option (Value×AH):=
 match quiet E A ρ ty op with
 |some v=>some (v,A)
 | none=>(match bX E ρ op with
   |some (ob,fv)=>(match cK A ob with|some A'=>some (fv A.next,A')|none=>none)
   |none=>c8 call E A ρ op)
theorem Fz(k:E.Ok){f:bV}(s:fp E f)(R:Rel E.P σ A w)(r:Glob E σ){a:Act}(g:OpR σ ρ a.eval)
 (h:opA f E A ρ o.type o.op=some (v,A')):Does E σ A w o a v A':=by unfold opA at h;split at h;rename_i u p;cases h;exact lE k R g p;split at h;rename_i z C l;split at h;rename_i D q;cases h;exact lF k R g l q;cases h;exact sr k s R r g h
def ku(call:bV)(E:Env)(ops:List Oper)(n:Nat):List Oper->T Value->AH->Option (T Value×AH)
 | [],F,A=>some (F,A)
 | o ::rest,F,A=>
   match cw ops F o with
   | some true=>(match opA call E A (ev E F) o.type o.op with
     |some (v,A')=>(match put n F o.dst v with|some F'=>ku call E ops n rest F' A'|none=>none)
     |none=>none)
   |some false=>(match put n F o.dst undef with|some F'=>ku call E ops n rest F' A|none=>none)
   |none=>none
theorem jr{E:Env}(u:E.Ok){p:bV}(C:fp E p){ops:Array Oper}{n:Nat}{Q:Exit->Act->World->Prop}:∀ (l:List Oper) (k:Nat) (F q:T Value) (A A':AH) (σ:Sig) (a:Act) (w:World),
 ku p E ops.toList n l F A=some (q,A')->(∀(i:Nat),i<l.length->ops[k+i]? =l[i]?)->Rel E.P σ A w->Glob E σ->FR σ F n a->
 (∀a' w' σ',FR σ' q n a'->Rel E.P σ' A' w'->Ext σ A w σ' A' w'->Q .normal a' w')->wpOps E.P ops Q (List.range' k l.length) a w
 | [],k,F,q,A,A',σ,a,w,h,_,R,hg,hF,hQ=>by simp only[ku,osI,GC]at h;obtain⟨rfl,rfl⟩:=h;exact hQ a w σ hF R (Ext.refl _ _ _)
 | o::rest,k,F,q,A,A',σ,a,w,h,hl,R,hg,hF,hQ=>by
  have U:ops[k]? =some o:=by have:=hl 0 (by simp);simpa using this
  have H:∀ (i:Nat),i<rest.length->ops[k+1+i]? =rest[i]?:=λi Y=>by have:=hl (i+1) (by simp;omega);rw[show k+1+i=k+(i+1)by omega,this];simp
  rw[GY,Je,wpOps_cons];unfold wpOp;simp only[U];simp only[ku]at h;cases r:cw ops.toList F o with
  |none=>rw[r]at h;cases h
  |some b=>
  rw[lS (σ:=σ) (F:=F) (λ_ _ _ d _ _ _=>hF.val d) r];cases b with
  |true=>rw[r]at h;simp only at h;rw[Gw rfl];left;split at h;rename_i v X z;split at h;rename_i D f;refine Fz u C R hg (oO hg hF.val) z _ _ λv' w' σ' S O I=>?_;have g:=Ext.sub R I;exact jr u C rest (k+1) D q X A' σ' _ w' h H O (hg.sub g) (mw (hF.mono g) S f) λV J s N M K=>hQ V J s N M (I.trans K);cases h;cases h
  |false=>rw[r]at h;simp only at h;rw[D' (by simp)];split at h;rename_i D f;exact jr u C rest (k+1) D q A A' σ _ w h H R hg (mw hF (cz σ) f) hQ;cases h
def gN(E:Env):Op->Bool
 | .store .. | .mapUpdate .. | .insert .. | .range .. | .next .. =>true
 | .convert _ d _=>(match und E d with|some (.slice _)=>true|_=>false)
 | .call c=>(match c.callee with| .builtin b=>(match b with| .len| .max| .min| .cap| .unsafeSliceData=>false|_=>true)|_=>true)
 |_=>false
def bG(op:Op):Lg:=op.operands.toList.filterMap fun| .tmp t=>some t|_=>none
def rho(E:Env)(F:T Value)(ts:Lg):Operand->Lj
 | .tmp t=>bif ts.any (Nat.beq t)then F.get t else none
 |x=>ev E F x
theorem CX(s:Glob E σ){a:Act}{ts:Lg}(q:∀ t,t∈ts->VO σ (slot F t) (a.tmps.getD t undef)):OpR σ (rho E F ts) a.eval:=by
 intro x v h;cases x with
 | tmp t=>
  simp only[rho]at h;cases l:ts.any (Nat.beq t);rw[l]at h;simp at h;rw[l]at h;simp only[C']at h;have r:t∈ts:=by rw[List.any_eq_true]at l;obtain⟨y,p,e⟩:=l;have:=Gy e;subst this;exact p
  exact q t r v h
 |const u=>simp only[rho,ev]at h;cases k:flat u;rw[k]at h;simp at h;rw[k]at h;simp only[C',osI]at h;subst h;exact bI k σ
 | global g=>
  simp only[rho,ev]at h;cases k:E.gl g with
  |none=>rw[k]at h;simp at h
  |some I=>rw[k]at h;cases h;obtain⟨H,D,c,e,fz,C,z⟩:=s g I k;exact AF H D C z
 |func f=>simp only[rho,ev,osI]at h;subst h;exact .func _ rfl .nil .nil
def fS(ms:Lg):List Edge->Nat
 | []=>0
 |e::l=>bif Region.binds .any e then(1 <<< e.on) ||| ((nth ms e.on).getD 0 ||| fS ms l)else fS ms l
def eZ:List Oper->Lg->Lg
 | [],acc=>acc
 |o::l,acc=>eZ l (acc++[fS acc o.after.toList])
def bit(ms:Lg)(i j:Nat):Bool:=((nth ms i).getD 0).testBit j
theorem lc:∀ (l:List Oper) (acc:Lg),∃r,eZ l acc=acc++r/\r.length=l.length/\∀ (i:Nat) o,l[i]? =some o->r[i]? =some (fS (acc++r.take i) o.after.toList)
 | [],acc=>⟨[],by simp[eZ]⟩
 | o::l,acc=>by
  obtain⟨r,k,h,g⟩:=lc l (acc++[fS acc o.after.toList]);refine⟨fS acc o.after.toList::r,by simp[eZ,k],by simp[h],λi f a=>?_⟩;cases i with
  |zero=>simp at a;subst a;simp
  |succ i=>simp at a;have:=g i f a;simpa using this
theorem dM{q:Lg}{j:Nat}:∀ {l:List Edge},(fS q l).testBit j=true->∃ e∈l,Region.binds .any e=true/\(e.on=j∨((nth q e.on).getD 0).testBit j=true)
 | [],h=>by simp[fS]at h
 | e ::l,h=>by
  simp only[fS]at h;cases f:Region.binds .any e with
  | true=>
   rw [f]at h;simp only[C',Nat.testBit_or,HR]at h;rcases h with h|h|h;have:e.on=j:=by
    rw[Nat.testBit_shiftLeft]at h;simp only[f',GQ]at h;obtain⟨g,a⟩:=h;have:j-e.on=0:=by
     cases r:j-e.on with
     |zero=>rfl
     |succ n=>rw[r]at a;simp[Nat.testBit_succ]at a
    omega
   exact⟨e,by simp,f,.inl this⟩;exact⟨e,by simp,f,.inr h⟩;obtain⟨p,g,a,k⟩:=dM h;exact⟨p,by simp[g],a,k⟩
  |false=>rw[f]at h;simp only[GT]at h;obtain⟨p,g,a,k⟩:=dM h;exact⟨p,by simp[g],a,k⟩
def ol(E:Env)(ops:Array Oper)(ms:Lg)(i j:Nat)(oi oj:Oper):Bool:=
 (match oj.dst with
  | some t=>(!(oi.looksAt ops).contains t||(Nat.beq i j||(bif Nat.blt j i then bit ms i j else bit ms j i)))&&
    (match oi.dst with|some s=> !(Nat.beq s t)||(!(Nat.blt i j)||bit ms j i)|none=>true)
  |none=>true)&&
 (!(gN E oi.op&&(gN E oj.op&&Nat.blt i j))||bit ms j i)
def n6(E:Env)(ops:Array Oper):Bool:=
 let l:=ops.toList
 let ms:=eZ l []
 l.zipIdx.all λ(oi,i)=>(oi.after.toList.all λe=> !(Region.binds .any e)||Nat.blt e.on i)&&l.zipIdx.all λ(oj,j)=>ol E ops ms i j oi oj
structure SF (E:Env) (ops:Array Oper) (ms:Lg):Prop where
 closed:∀ (L:Nat->Prop),(∀i o,ops[i]? =some o->L i->∀ e∈o.after.toList,Region.binds .any e=true->L e.on)->∀ i,i<ops.size->L i->∀ j,bit ms i j=true->L j
 anc:∀ (L:Nat->Prop),(∀i o,ops[i]? =some o->L i->∀ e∈o.after.toList,Region.binds .any e=true->L e.on)->∀ i o,ops[i]? =some o->(∀e∈o.after.toList,Region.binds .any e=true->L e.on)->∀ j,bit ms i j=true->L j
 back:∀ i o,ops[i]? =some o->∀ e∈o.after.toList,Region.binds .any e=true->e.on<i
 low:∀ i,i<ops.size->∀ j,bit ms i j=true->j<i
 temps:∀ i j oi oj t,ops[i]? =some oi->ops[j]? =some oj->oj.dst=some t->t∈oi.looksAt ops->i≠j->(j<i->bit ms i j=true)/\(i<j->bit ms j i=true)
 dsts:∀ i j oi oj t,ops[i]? =some oi->ops[j]? =some oj->oi.dst=some t->oj.dst=some t->i<j->bit ms j i=true
 effs:∀ i j oi oj,ops[i]? =some oi->ops[j]? =some oj->gN E oi.op=true->gN E oj.op=true->i<j->bit ms j i=true
theorem sf_of{ops:Array Oper}(h:n6 E ops=true):SF E ops (eZ ops.toList []):=by
 unfold n6 at h;simp only[Hc]at h;have C:∀ i o,ops[i]? =some o->(o,i)∈ops.toList.zipIdx:=by intro i o f;rw[List.mk_mem_zipIdx_iff_getElem?];simpa using f
 obtain⟨r,O,m2,m3⟩:=lc ops.toList [];simp only[List.nil_append]at O m3;have J:∀ i o,ops[i]? =some o->(nth (eZ ops.toList []) i).getD 0=fS (r.take i) o.after.toList:=by intro i o f;rw[O,aN,m3 i o (by simpa using f)];rfl
 have g:∀ i o,ops[i]? =some o->∀ e∈o.after.toList,Region.binds .any e=true->e.on<i:=by intro i o f e I q;have:=h _ (C i o f);simp only[f',Hc]at this;have:=this.1 e I;simp only[q,Bool.not_true,Bool.false_or]at this;rw[blt_eq,GQ]at this;exact this
 have z:∀ i j,j<i->(nth (r.take i) j).getD 0=(nth (eZ ops.toList []) j).getD 0:=by intro i j S;rw[O,aN,aN,GZ,Gw S]
 have l:∀ i j u H,ops[i]? =some u->ops[j]? =some H->ol E ops (eZ ops.toList []) i j u H=true:=by intro i j u H f K;have:=h _ (C i u f);simp only[f',Hc]at this;exact this.2 _ (C j H K)
 have k:∀ (L:Nat->Prop),(∀i o,ops[i]? =some o->L i->∀ e∈o.after.toList,Region.binds .any e=true->L e.on)->∀ i,i<ops.size->L i->∀ j,bit (eZ ops.toList []) i j=true->L j:=by
  intro L Y i;induction i using Nat.strongRecOn with
  |_ i Q=>
  intro f X j q;have M:ops[i]? =some ops[i]:=by simp[f]
  unfold bit at q;rw[J i _ M]at q;obtain⟨e,I,p,s⟩:=dM q;have a:=g i _ M e I p;have D:=Y i _ M X e I p;rcases s with rfl|s;exact D;rw[z i e.on a]at s;exact Q e.on a (by omega) D j s
 have N:∀ i,i<ops.size->∀ j,bit (eZ ops.toList []) i j=true->j<i:=by
  intro i;induction i using Nat.strongRecOn with
  |_ i Q=>
  intro f j q;have M:ops[i]? =some ops[i]:=by simp[f]
  unfold bit at q;rw[J i _ M]at q;obtain⟨e,I,p,s⟩:=dM q;have a:=g i _ M e I p;rcases s with rfl|s;exact a;rw[z i e.on a]at s;have:=Q e.on a (by omega) j s;omega
 refine⟨k,?_,g,N,?_,?_,?_⟩;intro L Y i o f hp j q;unfold bit at q;rw[J i _ f]at q;obtain⟨e,I,p,s⟩:=dM q;have a:=g i _ f e I p;have D:=hp e I p;have Z:i<ops.size:=by rcases Hg i ops.size with h|h;exact h;rw[He h]at f;cases f
 rcases s with rfl|s;exact D;rw[z i e.on a]at s;exact k L Y e.on (by omega) D j s;intro i j u H t f K hd ht R;have:=l i j u H f K;simp only[ol,hd,f',HR]at this;have:=this.1.1;have hc:(u.looksAt ops).contains t=true:=by simpa using ht
 rw[hc]at this;rcases this with h|h|h;simp at h;exact absurd (Gy h) R;constructor;intro a;have:Nat.blt j i=true:=by rw[blt_eq];simpa using a
 rw[this]at h;exact h;intro a;have:Nat.blt j i=false:=by rw[blt_eq];simp;omega
 rw[this]at h;exact h;intro i j u H t f K V U a;have:=l i j u H f K;simp only[ol,U,V,f',HR]at this;have:=this.1.2;rcases this with h|h|h;simp at h;rw[blt_eq]at h;simp at h;omega;exact h;intro i j u H f K ei ej a;have:=l i j u H f K;simp only[ol,f',HR]at this;have:=this.2;rcases this with h|h;have q:Nat.blt i j=true:=by rw[blt_eq];simpa using a
 rw[ei,ej,q]at h;simp at h;exact h
def fvl(ops:Array Oper)(vs:Lh)(L:Nat->Bool)(F0:T Value)(t:Nat):Nat->Lj
 |0=>slot F0 t
 |k+1=>if L k=true/\(ops[k]?).bind (·.dst)=some t then some ((vs[k]?).getD undef)else fvl ops vs L F0 t k
theorem jp {ops : Array Oper}{vs:Lh}{L:Nat->Bool}{a:T Value}{t:Nat}{i:Nat}:∀ k,i<=k->(∀j,i<=j->j<k->¬ (L j=true/\(ops[j]?).bind (·.dst)=some t))->fvl ops vs L a t k=fvl ops vs L a t i
  | 0, h, _ => by have:i=0:=by omega
                  subst this;rfl
  |k+1,h,hj=>by by_cases e:i=k+1;subst e;rfl;rw[fvl,D' (hj k (by omega) (by omega))];exact jp k (by omega) λj f g=>hj j f (by omega)
theorem gT{ops:Array Oper}{vs:Lh}{L a:Nat->Bool}{f:T Value}{t:Nat}:∀ k,(∀j,j<k->(ops[j]?).bind (·.dst)=some t->L j=a j)->fvl ops vs L f t k=fvl ops vs a f t k
 |0,_=>rfl
 |k+1,h=>by simp only[fvl];rw[gT k λj g=>h j (by omega)];by_cases e:(ops[k]?).bind (·.dst)=some t;rw[h k (by omega) e];rw[D' (λc=>e c.2),D' (λc=>e c.2)]
abbrev _root_.Go.JH:=@Option.map_eq_some_iff
abbrev _root_.Go.Jv:=@List.find?_some
abbrev _root_.Go.I0:=@List.mem_of_find?_eq_some
abbrev _root_.Go.Jf:=@List.find?_eq_none
def vis(A:AH)(B:Nat):Option AObj:=
 match A.t.get B with
 |some o=>bif o.here then some o else none
 |none=>none
theorem vis_some{o:AObj}:vis A B=some o↔A.t.get B=some o/\o.here=true:=by
 unfold vis;cases h:A.t.get B with
 |none=>simp
 |some x=>cases a:x.here;simp only[a,GT];constructor;intro e;cases e;rintro⟨e,h2⟩;cases e;rw[a]at h2;cases h2;simp only[a,C',osI];constructor;rintro rfl;exact⟨rfl,a⟩;rintro⟨e,_⟩;exact e
abbrev Al:=Nat×Nat×AObj
def b6(m:Nat):List Al->AH->Option AH
 | [],G=>some G
 | (i,id,ob)::r,G=>
   match b6 m r G with
   | some H=>bif m.testBit i then(match vis H id with
     |some _=>some H
     |none=>(match T.set FU H.t id ob with|some t=>some ⟨t,H.next⟩|none=>none))else some H
   |none=>none
theorem fH{m:Nat}:∀ {k:List Al}{G H:AH},b6 m k G=some H->(∀x∈k,x.2.2.here=true)->
 H.next=G.next/\(∀B o,vis H B=some o->vis G B=some o∨(vis G B=none/\∃ i,(i,B,o)∈k/\m.testBit i=true))/\
 (∀B o,vis G B=some o->vis H B=some o)/\(∀i B o,(i,B,o)∈k->m.testBit i=true->∃ Q,vis H B=some Q)
 | [],G,H,h,_=>by simp only[b6,osI]at h;subst h;exact⟨rfl,λB o h=>.inl h,λB o h=>h,λi B o h=>by simp at h⟩
 | (i,id,ob)::r,G,H,h,hh=>by
  simp only[b6]at h;cases K:b6 m r G with
  |none=>simp[K]at h
  |some N=>
  simp only[K]at h;obtain⟨s1,J,p,I⟩:=fH K (λx R=>hh x (by simp[R]));cases C:m.testBit i;rw[C]at h;simp only[GT,osI]at h;subst h;refine⟨s1,λB o f=>?_,p,λj B o q a=>?_⟩;rcases J B o f with h|⟨z,j,u,s⟩;exact .inl h;exact .inr ⟨z,j,by simp[u],s⟩;rcases GI.1 q with e|e;simp only[GC]at e;rw[e.1,C]at a;cases a;exact I j B o e a;rw[C]at h;simp only[C']at h;cases l:vis N id with
  |some O=>simp only[l,osI]at h;subst h;refine⟨s1,λB o f=>?_,p,λj B o q a=>?_⟩;rcases J B o f with h|⟨z,j,u,s⟩;exact .inl h;exact .inr ⟨z,j,by simp[u],s⟩;rcases GI.1 q with e|e;simp only[GC]at e;rw[e.2.1];exact⟨O,l⟩;exact I j B o e a
  |none=>
  simp only[l]at h;split at h;rename_i t S;cases h;have U:=Hp S;have g:∀ B,vis ⟨t,N.next⟩ B=if B=id then some ob else vis N B:=by intro B;unfold vis;simp only[U];by_cases e:B=id;simp only[e,Ie,hh (i,id,ob) (by simp),C'];simp only[e,HV]
  refine⟨s1,λB o f=>?_,λB o f=>?_,λj B o q a=>?_⟩;rw[g]at f;by_cases e:B=id;rw[Gw e,osI]at f;subst f;subst e;refine .inr ⟨?_,i,by simp,C⟩;cases M:vis G B with
  |none=>rfl
  |some x=>rw[p B x M]at l;cases l
  rw[D' e]at f;rcases J B o f with h|⟨z,j,u,s⟩;exact .inl h;exact .inr ⟨z,j,by simp[u],s⟩;rw[g];by_cases e:B=id;rw[e]at f;rw[p _ _ f]at l;cases l;rw[D' e];exact p B o f;rw[g];by_cases e:B=id;exact⟨ob,by rw[Gw e]⟩;rw[D' e];rcases GI.1 q with D|D;simp only[GC]at D;exact absurd D.2.1 e;exact I j B o D a;cases h
def gf(als:List Al)(G:AH)(L:Nat->Bool)(B:Nat):Option AObj:=
 match vis G B with
 |some o=>some o
 |none=>(als.find? (λx=>Nat.beq x.2.1 B&&L x.1)).map (·.2.2)
structure AlsOk (n0 m:Nat) (als:List Al):Prop where
 id:∀ x∈als,x.2.1=n0+x.1
 lt:∀ x∈als,x.1<m
 own:∀ x∈als,x.2.2.own=true
 uniq:∀ x∈als,∀y∈als,x.1=y.1->x=y
theorem m6{a:List Al}{o:AObj}(h:gf a G L B=some o):vis G B=some o∨(vis G B=none/\∃ i,(i,B,o)∈a/\L i=true):=by unfold gf at h;split at h;rename_i x f;cases h;exact .inl f;rename_i f;rw[JH]at h;obtain⟨y,k,rfl⟩:=h;have g:=Jv k;have l:=I0 k;simp only[f']at g;have:=Gy g.1;subst this;exact .inr ⟨f,y.1,l,g.2⟩
theorem kj{a:List Al}{o:AObj}(h:vis G B=some o):gf a G L B=some o:=by unfold gf;rw[h]
theorem tM{p:Nat}{a:List Al}(k:AlsOk p m a){o:AObj}(h:(i,B,o)∈a)(r:L i=true)(q:vis G B=none):gf a G L B=some o:=by
 unfold gf;rw[q];simp only;cases g:a.find? (λx=>Nat.beq x.2.1 B&&L x.1)with
 |none=>rw[Jf]at g;have:=g _ h;simp[r]at this
 |some y=>have l:=Jv g;have f:=I0 g;simp only[f']at l;have z:=Gy l.1;have u:=k.id y f;have s:=k.id _ h;simp only at s;have:y=(i,B,o):=k.uniq y f _ h (by simp only;omega);subst this;rfl
theorem EW{a:List Al}{f:Nat->Bool}(h:∀ x∈a,f x.1=L x.1)(B:Nat):gf a G f B=gf a G L B:=by
 unfold gf;have:∀ (l:List Al),(∀x∈l,f x.1=L x.1)->l.find? (λx=>Nat.beq x.2.1 B&&f x.1)=l.find? (λx=>Nat.beq x.2.1 B&&L x.1):=by
  intro l g;induction l with
  |nil=>rfl
  |cons x l k=>simp only[List.find?_cons,g x (by simp)];rw[k λy p=>g y (by simp[p])]
 rw[this a h]
structure TR (call:bV) (E:Env) (ops:Array Oper) (ms:Lg) (n n0:Nat) (F0:T Value) (fs:List (T Value)) (vs:Lh) (cs:List AH) (es:Lg) (als:List Al):Prop where
 fs0:fs[0]? =some F0
 row : ∀i o,ops[i]? =some o->∃ F F' v,fs[i]? =some F/\fs[i+1]? =some F'/\vs[i]? =some v/\put n F o.dst v=some F'/\
  ((cw ops.toList F o=some false/\v=undef/\i ∉ es/\(∀x∈als,x.1≠i))∨
   (cw ops.toList F o=some true/\i ∉ es/\(∀x∈als,x.1≠i)/\
    ∀ (e:Nat) G,cs[e]? =some G->(∀(j:Nat) i',es[j]? =some i'->bit ms i i'=true->j<e)->(∀(j:Nat) i',es[j]? =some i'->j<e->bit ms i' i=false)->
      ∃H,b6 ((nth ms i).getD 0) als G=some H/\quiet E H (rho E F (bG o.op)) o.type o.op=some v)∨
   (cw ops.toList F o=some true/\i ∉ es/\∃ ob fv,bX E (rho E F (bG o.op)) o.op=some (ob,fv)/\(i,n0+i,ob)∈als/\v=fv (n0+i))∨
   (cw ops.toList F o=some true/\(∀x∈als,x.1≠i)/\∃ (e:Nat),∃G G' H,es[e]? =some i/\cs[e]? =some G/\cs[e+1]? =some G'/\b6 ((nth ms i).getD 0) als G=some H/\
    c8 call E H (rho E F (bG o.op)) o.op=some (v,G')/\∀ x∈als,∀ob,vis H x.2.1=some ob->∃ ob',vis G' x.2.1=some ob'))
 es_eff:∀ (j:Nat) i,es[j]? =some i->∃ o,ops[i]? =some o/\gN E o.op=true
 es_inc:∀ (j j':Nat) i i',es[j]? =some i->es[j']? =some i'->j<j'->i<i'
 als_ok:AlsOk n0 ops.size als
 cs_len:cs.length=es.length+1
 cs_next:∀ G∈cs,n0+ops.size<=G.next
structure St (E:Env) (ops:Array Oper) (n n0:Nat) (F0:T Value) (vs:Lh) (cs:List AH) (es:Lg) (als:List Al) (σ0:Sig) (g0:Nat->Option AObj) (w0:World)
 (L:Nat->Bool) (e:Nat) (σ:Sig) (a:Act) (w:World):Prop where
 cl:∀ i o,ops[i]? =some o->L i=true->∀ ed∈o.after.toList,Region.binds .any ed=true->L ed.on=true
 lt:∀ i,L i=true->i<ops.size
 ef:∀ (j:Nat) i,es[j]? =some i->(L i=true↔j<e)
 sz:a.tmps.size=n
 df:a.defers=[]
 fr:∀ t,VO σ (fvl ops vs L F0 t ops.size) (a.tmps.getD t undef)
 free:∀ x∈als,L x.1=false->σ x.2.1=none/\¬ σ.nl x.2.1
 glob:Glob E σ
 rel:∃ G,cs[e]? =some G/\RelG E.P σ (gf als G L) G.next w/\ExtG σ0 g0 n0 w0 σ (gf als G L) G.next w
theorem jP{f:bV}{E:Env}{ops:Array Oper}{z:Lg}{n u:Nat}{s:T Value}{fs:List (T Value)}{vs:Lh}{cs:List AH}{es:Lg}{l:List Al}
 (g:TR f E ops z n u s fs vs cs es l) (t:Nat):∀ (k:Nat) F,k<=ops.size->fs[k]? =some F->slot F t=fvl ops vs (λ_=>true) s t k
 |0,F,_,h=>by rw[g.fs0,osI]at h;subst h;rfl
 | k+1,F,hk,h=>by
  have q:ops[k]? =some ops[k]:=by simp<;>omega
  obtain⟨J,K,v,I,H,D,a,_⟩:=g.row k _ q;rw[H,osI]at h;subst h;have p:=jP g t k J (by omega) I;simp only[fvl,q,Iq,D,Ip,true_and];cases hd:(ops[k]'(by omega)).dst with
  |none=>rw[hd]at a;simp only[put,osI]at a;subst a;rw[D' (by simp)];exact p
  |some d=>rw[hd]at a;simp only[put]at a;cases r:Nat.blt d n;rw[r]at a;simp at a;rw[r]at a;simp only[C']at a;have C:=Hp a;unfold slot;rw[C];by_cases e:t=d;subst e;simp;rw[D' e,D' (by simp;exact λh=>e h.symm)];exact p
theorem sU(ops:Array Oper)(o:Oper){t:Nat}(h:t∈bG o.op):t∈o.looksAt ops:=by unfold Oper.looksAt;exact List.mem_append_left _ h
section
variable {call:bV}{E:Env}{ops:Array Oper}{ms:Lg}{n n0:Nat}{F0:T Value}{fs:List (T Value)}{vs:Lh}{cs:List AH}{es:Lg}{als:List Al}
 {σ0:Sig}{g0:Nat->Option AObj}{w0:World}{L:Nat->Bool}{e:Nat}{σ:Sig}{a:Act}{w:World}{i:Nat}{o:Oper}{F:T Value}
theorem tn(l:SF E ops ms)(q:TR call E ops ms n n0 F0 fs vs cs es als)(st:St E ops n n0 F0 vs cs es als σ0 g0 w0 L e σ a w)(c:ops[i]? =some o)(v:fs[i]? =some F)(k:L i=false)
 (r:∀ p∈o.after.toList,Region.binds .any p=true->L p.on=true) {t:Nat}(m:t∈o.looksAt ops):VO σ (slot F t) (a.tmps.getD t undef):=by
 have z:i<ops.size:=by rcases Hg i ops.size with h|h;exact h;rw[He h]at c;cases c
 rw[jP q t i F (by omega) v];have g:∀ j,bit ms i j=true->L j=true:=l.anc (λi=>L i=true) st.cl i o c r;have y:fvl ops vs L F0 t ops.size=fvl ops vs L F0 t i:=by
  refine jp ops.size (by omega) λj s d f=>?_;have b:ops[j]? =some ops[j]:=by simp[d]
  rw[b,Iq]at f;by_cases e:i=j;subst e;rw[k]at f;cases f.1;have:=(l.temps i j o _ t c b f.2 m e).2 (by omega);have:=l.closed (λi=>L i=true) st.cl j d f.1 i this;rw[k]at this;cases this
 have x:fvl ops vs L F0 t i=fvl ops vs (λ_=>true) F0 t i:=by
  refine gT i λj u hd=>?_;have b:ops[j]? =some (ops[j]'(by omega)):=by simp<;>omega
  rw[b,Iq]at hd;exact g j ((l.temps i j o _ t c b hd m (by omega)).1 u)
 rw[<-x,<-y];exact st.fr t
theorem io(y:SF E ops ms)(st:St E ops n n0 F0 vs cs es als σ0 g0 w0 L e σ a w)(f:ops[i]? =some o)(s:L i=false){v v':Value}(B:vs[i]? =some v){σ':Sig}(b:σ.sub σ')(m:VR σ' v v')
 (D:∀ d,o.dst=some d->d<n) (t:Nat):VO σ' (fvl ops vs (λj=>decide (j=i)||L j) F0 t ops.size) ((a.put o.dst v').tmps.getD t undef):=by
 have I:i<ops.size:=by rcases Hg i ops.size with h|h;exact h;rw[He h]at f;cases f
 by_cases e:o.dst=some t;have x:fvl ops vs (λj=>decide (j=i)||L j) F0 t ops.size=fvl ops vs (λj=>decide (j=i)||L j) F0 t (i+1):=by
  refine jp ops.size (by omega) λj C g q=>?_;have c:ops[j]? =some ops[j]:=by simp[g]
  rw[c,Iq]at q;have r:L j=true:=by have:=q.1;simp only[HR,GQ]at this;rcases this with h|h;omega;exact h
  have:=y.dsts i j o _ t f c e q.2 (by omega);have:=y.closed (λi=>L i=true) st.cl j g r i this;rw[s]at this;cases this
 rw[x,fvl,Gw ⟨by simp,by rw[f,Iq,e]⟩,B];have p:=D t e;have:(a.put o.dst v').tmps.getD t undef=v':=by rw[e];simp only[Act.put];rw[Hf,H7];simp[st.sz,p]
 rw[this];intro u z;simp only[Ip,osI]at z;subst z;exact m;have x:fvl ops vs (λj=>decide (j=i)||L j) F0 t ops.size=fvl ops vs L F0 t ops.size:=by refine gT ops.size λj H l=>?_;by_cases A:j=i;subst A;rw[f,Iq]at l;exact absurd l e;simp[A]
 rw[x];have:(a.put o.dst v').tmps.getD t undef=a.tmps.getD t undef:=by
  cases k:o.dst with
  |none=>rfl
  |some d=>simp only[Act.put];rw[Hf,H7,D' (λG=>e (by rw[k,G])),Hf]
 rw[this];exact(st.fr t).mono b
end
end
end Go.AM
