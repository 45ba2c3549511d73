/- A part of the proof. -/
import Derived.Test.YtegefclhhjbfhaaGreatDoorA
import Derived.Lib.UnsafeStr
import Derived.Deep.AppendSrc
import Derived.Deep.Upon
import Derived.Room.Entries
import Derived.Laws.MakeOwn
import Derived.Laws.AppendOwn
set_option linter.unusedVariables false
set_option linter.unusedSimpArgs false
namespace Go.AM
noncomputable section
theorem _root_.Go.E':type_of% @List.length_append:=@List.length_append
abbrev _root_.Go.JT:=@Nat.succ_mul
theorem _root_.Go.Ji:type_of% @List.drop_drop:=@List.drop_drop
abbrev _root_.Go.Jo:=@List.take_of_length_le
theorem _root_.Go.Jv:type_of% @List.getElem?_eq_none:=@List.getElem?_eq_none
theorem _root_.Go.H7:type_of% @List.drop_eq_getElem_cons:=@List.drop_eq_getElem_cons
theorem _root_.Go.Hq:type_of% @List.getElem_mem:=@List.getElem_mem
theorem _root_.Go.Io:type_of% @List.getElem?_take:=@List.getElem?_take
theorem _root_.Go.IB:type_of% @List.getElem?_drop:=@List.getElem?_drop
theorem _root_.Go.II:type_of% @Bool.or_eq_false_iff:=@Bool.or_eq_false_iff
abbrev _root_.Go.Jr:=@Bool.not_eq_false'
theorem _root_.Go.D':type_of% @Int.toNat_natCast:=@Int.toNat_natCast
abbrev _root_.Go.H0:=@List.eq_nil_of_length_eq_zero
theorem _root_.Go.IJ:type_of% @List.mem_of_mem_take:=@List.mem_of_mem_take
theorem _root_.Go.I0:type_of% @List.mem_of_mem_drop:=@List.mem_of_mem_drop
theorem _root_.Go.H5:type_of% @Nat.mul_le_mul_right:=@Nat.mul_le_mul_right
theorem _root_.Go.Jw:type_of% @List.length_nil:=@List.length_nil
abbrev _root_.Go.Jp:=@Nat.zero_le
abbrev _root_.Go.J':=@Array.getElem?_toList
variable {A A' G:AH}{o2:AObj}{ts:Array TypeId}{as:Array Value}{E:Env}{c' els news tl vs vs':Lh}{B b c d i j lo m n sz:Nat}{L:Nat->Bool}{fz:Nat×Nat}{o:Oper}{ρ:Operand->Lj}{ρ':Operand->Value}{P:Program}{σ σ':Sig}{F:T Value}{e t ty:TypeId}{a' s' v v' x x' y y':Value}{w:World}
def symI(op:BinOp)(k:IntKind)(x y:Int):Lj:=
 match op with
 | .add=>some (.int k (k.wrap (x+y)))
 | .sub=>some (.int k (k.wrap (x-y)))
 | .mul=>some (.int k (k.wrap (x*y)))
 | .quo=>bif decide (y=0)then none else some (.int k (k.wrap (x.tdiv y)))
 | .rem=>bif decide (y=0)then none else some (.int k (x.tmod y))
 | .and=>some (.int k (k.wrap (BitVec.ofInt k.bits x &&& BitVec.ofInt k.bits y).toNat))
 | .or=>some (.int k (k.wrap (BitVec.ofInt k.bits x ||| BitVec.ofInt k.bits y).toNat))
 | .xor=>some (.int k (k.wrap (BitVec.ofInt k.bits x ^^^ BitVec.ofInt k.bits y).toNat))
 | .andNot=>some (.int k (k.wrap (BitVec.ofInt k.bits x &&& ~~~ BitVec.ofInt k.bits y).toNat))
 | .eql=>some (.bool (decide (x=y)))
 | .neq=>some (.bool (!decide (x=y)))
 | .lss=>some (.bool (decide (x<y)))
 | .leq=>some (.bool (decide (x<=y)))
 | .gtr=>some (.bool (decide (y<x)))
 | .geq=>some (.bool (decide (y<=x)))
 | .shl=>none
 | .shr=>none
def nE(op:BinOp)(k:IntKind)(x:Int)(k':IntKind)(y:Int):Lj:=
 match op with
 | .shl=>bif decide (y<0)then none else some (.int k (k.wrap (x*2 ^ (min y.toNat k.bits))))
 | .shr=>bif decide (y<0)then none else some (.int k (x.fdiv (2 ^ (min y.toNat k.bits))))
 |op=>bif dp k k' then symI op k x y else none
theorem uE{l:BinOp}{x y:Operand}{k p:IntKind}{a b:Int}(h:nE l k a p b=some v):
 (do eqGuard l t x y (.int k a) (.int p b);binOp l t (.int k a) (.int p b)).run P w=.ok v w/\scal v=true:=by
 simp only[HB,gw,Hv];have q:∀ l,l≠ .shl->l≠ .shr->(bif dp k p then symI l k a b else none)=some v->(binOp l t (.int k a) (.int p b)).run P w=.ok v w/\scal v=true:=by
  intro l u s g;cases r:dp k p with
  |false=>rw[r]at g;simp at g
  |true=>
  rw[r]at g;simp only[C']at g;obtain rfl:k=p:=by simpa[dp]using r
  unfold symI at g;split at g<;>try (exact absurd rfl ‹_›)
  all_goals first
   | (cases f:decide (b=0)with
      |true=>simp only[f,C']at g;cases g
      | false=>
        simp only[f,HJ,osI]at g
        subst g
        have f:b≠0:=by simpa using f
        exact⟨by simp[binOp,Op.intDiv,f],rfl⟩)
   |(cases g;refine⟨?_,rfl⟩;simp[binOp,Op.intArith,Op.intBits,Op.intCmp,bne];done)
   |(cases g;refine⟨?_,rfl⟩;simp[binOp,Op.intArith,Op.intBits,Op.intCmp,bne];first|rfl|exact fZ _ _)
   |skip
 unfold nE at h;split at h;cases f:decide (b<0)with
 |true=>simp only[f,C']at h;cases h
 | false=>
  simp only[f,HJ,osI]at h;subst h;have f:¬ b<0:=by simpa using f
  exact⟨by simp only[binOp,Op.shift];rw[Hm f];rfl,rfl⟩
 cases f:decide (b<0)with
 |true=>simp only[f,C']at h;cases h
 | false=>
  simp only[f,HJ,osI]at h;subst h;have f:¬ b<0:=by simpa using f
  exact⟨by simp only[binOp,Op.shift];rw[Hm f];rfl,rfl⟩
 exact q _ ‹_› ‹_› h
theorem aU(x:Value)(l:Lh):ap (x::l)=x.cells.toList++ap l:=rfl
theorem bv(l m:Lh):ap (l++m)=ap l++ap m:=by simp[ap]
theorem aE{sz:Nat}:∀ {els:Lh},(∀x∈els,x.cells.size=sz)->(ap els).length=els.length*sz
 | [],_=>by simp[ap]
 |x::l,h=>by rw[aU,E',aE (λy a=>h y (by simp[a]))];grind
theorem bP{sz:Nat}:∀ {els:Lh}(i:Nat),(∀x∈els,x.cells.size=sz)->(ap els).drop (i*sz)=ap (els.drop i)
 |els,0,_=>by simp
 | [],i+1,_=>by simp[ap]
 |x::l,i+1,h=>by have f:=h x (by simp);rw[aU,List.drop_succ_cons,<-bP i (λy a=>h y (by simp[a])),JT,Nat.add_comm,<-Ji];grind
theorem cb{sz:Nat}:∀ {els:Lh}(i:Nat),(∀x∈els,x.cells.size=sz)->(ap els).take (i*sz)=ap (els.take i)
 |els,0,_=>by simp[ap]
 | [],i+1,_=>by simp[ap]
 |x::l,i+1,h=>by have f:=h x (by simp);rw[aU,List.take_succ_cons,aU,<-cb i (λy a=>h y (by simp[a])),JT,Nat.add_comm,List.take_append,Jo (by simp;omega)];congr 2;simp[f]
theorem lK(h:∀ x∈els,x.cells.size=sz)(a:els[i]? =some x):((ap els).drop (i*sz)).take sz=x.cells.toList:=by grind [bP,IP,Jv,H7,Hr,osI,aU,List.take_left',Hq]
theorem xv(R:Rel P σ A w){o:Nat}{c:Array Value}
 (g:σ.ro b=some (.cells c e fz)) (f:∀ x∈els,x.cells.size=sz) (h:VRs σ (ap els) ((c.toList.drop o).take (els.length*sz))) (k:els[i]? =some x):
 ∃l',VRs σ x.cells.toList l'/\∀ (j:Nat) v',l'[j]? =some v'->w.cell? ⟨b,o+i*sz+j,none⟩=some v':=by
 refine⟨(((c.toList.drop o).take (els.length*sz)).drop (i*sz)).take sz,?_,λj v' a=>?_⟩;rw[<-lK f k];exact(h.drop _).take _;rw[Io]at a;split at a;rw[IB,Io]at a;split at a;rw[IB]at a;have l:c[o+(i*sz+j)]? =some v':=by simpa using a
 simp[World.cell?,R.ro b _ g,In,l];cases a;cases a
def ldat(E:Env)(t:TypeId)(els:Lh)(i j:Nat):Lj:=
 match nth els i with
 | some x=>(match und E t with
   | some d=>bif br d then(match E.ti t with
    |some ti=>bif Nat.beq ((x.cells.toList.drop j).take ti.size).length ti.size then some (.agg ⟨(x.cells.toList.drop j).take ti.size⟩)else none
    | none=>none)
     else nth x.cells.toList j
   |none=>none)
 |none=>none
theorem vY(q:E.Ok)(R:Rel E.P σ A w){o:Nat}{c:Array Value}
 (z:σ.ro b=some (.cells c e fz)) (u:∀ x∈els,x.cells.size=sz) (J:VRs σ (ap els) ((c.toList.drop o).take (els.length*sz))) (h:ldat E t els i j=some v):
 ∃v',(Instr.loadAt t (.pointer (some ⟨b,o+i*sz+j,none⟩))).run E.P w=.ok v' w/\VR σ v v':=by
 unfold ldat at h;split at h;rename_i x C;rw[aP]at C;obtain⟨r,H,l⟩:=xv R z u J C;split at h;rename_i d D;cases f:br d with
 | true=>
  simp only[f,C']at h;split at h;rename_i k s;cases a:Nat.beq ((x.cells.toList.drop j).take k.size).length k.size;rw[a]at h;simp at h;rw[a]at h;simp only[C',osI]at h;subst h;have a:=Ho a;have p:=(H.drop j).take k.size;refine⟨.agg ⟨(r.drop j).take k.size⟩,?_,.agg p⟩;have I:((r.drop j).take k.size).length=k.size:=by rw[p.length,a]
  have g:=Jq (P:=E.P) w ⟨b,o+i*sz+j,none⟩ ((r.drop j).take k.size) (λm v N=>by grind [aM,Io,IB])
  rw[I]at g;simp[Instr.loadAt,Instr.sureAddr,loadVar,cD q D,f,aH q s,g];cases h
 |false=>simp only[f,HJ]at h;rw[aP]at h;obtain⟨v',M,K⟩:=H.get h;refine⟨v',?_,K⟩;have:=l j v' M;simp[Instr.loadAt,Instr.sureAddr,loadVar,cD q D,f,this]
 cases h;cases h
def optA(ρ:Operand->Lj)(x:Option Operand):Option Lj:=
 match x with
 |none=>some none
 |some x=>(match ρ x with|some v=>bif scal v then some (some v)else none|none=>none)
theorem iS(a:OpR σ ρ ρ'){x:Option Operand}{v:Lj}(h:optA ρ x=some v):x.map ρ'=v:=by unfold optA at h;split at h;grind;rename_i x;split at h;rename_i u g;cases f:scal u;rw[f]at h;simp at h;rw[f]at h;simp only[C',osI]at h;subst h;simp[l5 f (a x u g)];cases h
def symQ (E:Env)(ρ:Operand->Lj)(op:Op):Lj:=
 match op with
 | .binOp op t x y _=>(match ρ x with
   |some (.int k a)=>(match ρ y with|some (.int k' b)=>nE op k a k' b|_=>none)
   |some (.agg ⟨xs⟩)=>(match ρ y with|some (.agg ⟨ys⟩)=>Gc E op t xs ys|_=>none)
   |_=>none)
 | .convert s d x=>(match ρ x with
   |some (.int _ n)=>(match und E s,und E d with|some _,some (.int k)=>some (.int k (k.wrap n))|_,_=>none)
   |_=>none)
 | .indexAddr t x i=>(match ρ x with
   | some (.func (.yield sz) ⟨els⟩ ⟨[]⟩)=>(match ρ i,und E t with
     | some (.int _ n),some (.slice e)=>(match E.ti e with
       |some ie=>bif (Nat.beq ie.size sz&&Nat.blt 0 sz)&&(decide (0<=n)&&decide (n<els.length))then some (.func (.yield sz) ⟨els⟩ ⟨[.int .i64 n.toNat,.int .i64 (0:Nat)]⟩)else none
       |none=>none)
     |_,_=>none)
   |_=>none)
 | .fieldAddr t x f=>(match ρ x with
   | some (.func (.yield sz) ⟨els⟩ ⟨[.int .i64 i,.int .i64 j]⟩)=>(match und E t with
     | some (.struct fs)=>(match nth fs.toList f with
       | some fd=>(match E.ti fd.type with
         |some ti=>bif Nat.beq ti.size 0|| !Nat.blt (j.toNat+fd.offset) sz then none else some (.func (.yield sz) ⟨els⟩ ⟨[.int .i64 i,.int .i64 (j.toNat+fd.offset:Nat)]⟩)
         |none=>none)
       |none=>none)
     |_=>none)
   |_=>none)
 | .load t a=>(match ρ a with
   |some (.func (.yield _) ⟨els⟩ ⟨[.int .i64 i,.int .i64 j]⟩)=>ldat E t els i.toNat j.toNat
   |_=>none)
 | .slice t x lo hi mx=>(match ρ x with
   | some (.func (.yield sz) ⟨els⟩ ⟨[]⟩)=>(match mx,optA ρ lo,optA ρ hi with
     | none,some l,some h=>(match und E t,bnds els.length els.length l h none with
       | some (.slice e),some (a,b,_)=>(match E.ti e with
         |some ie=>bif Nat.beq ie.size sz then some (.func (.yield sz) ⟨(els.take b).drop a⟩ ⟨[]⟩)else none
         |none=>none)
       |_,_=>none)
     |_,_,_=>none)
   |_=>none)
 | .call c=>(match c.callee with
   | .builtin .len=>(match c.args.toList,c.argTypes.toList with
     | x::_,t::_=>(match ρ x with
       |some (.func (.yield _) ⟨els⟩ ⟨[]⟩)=>(match und E t with|some (.slice _)=>some (.int .i64 els.length)|_=>none)
       |_=>none)
     |_,_=>none)
   |_=>none)
 |_=>none
theorem Cr(C:E.Ok)(R:Rel E.P σ A w)(p:OpR σ ρ ρ')
 (h:symQ E ρ o.op=some v):∃ v',(execOp ρ' o).run E.P w=.ok (.value v') w/\VR σ v v':=by
 unfold symQ at h;unfold execOp;split at h;rename_i op t x y yt q;rw[q];split at h;rename_i k a ha;split at h;rename_i k' b u;have e1:ρ' x=.int k a:=by have:=p x _ ha;generalize ρ' x=z at this;cases this;rfl
 have e2:ρ' y=.int k' b:=by have:=p y _ u;generalize ρ' y=z at this;cases this;rfl
 obtain⟨g1,g2⟩:=uE (P:=E.P) (t:=t) (x:=x) (y:=y) (w:=w) h;refine⟨v,?_,e7 g2 σ⟩;simp only[e1,e2,HB]at g1 ⊢;rw[g1];rfl;cases h;rename_i xs ha;split at h;rename_i ys u;have e1:∃ U,ρ' x=.agg ⟨U⟩/\VRs σ xs U:=by have:=p x _ ha;generalize ρ' x=z at this;cases this with|agg h=>exact⟨_,rfl,h⟩
 have e2:∃ S,ρ' y=.agg ⟨S⟩/\VRs σ ys S:=by have:=p y _ u;generalize ρ' y=z at this;cases this with|agg h=>exact⟨_,rfl,h⟩
 obtain⟨U,e1,v1⟩:=e1;obtain⟨S,e2,v2⟩:=e2;obtain⟨g1,g2⟩:=z1 C v1 v2 (x:=x) (y:=y) (w:=w) h;refine⟨v,?_,e7 g2 σ⟩;simp only[e1,e2,HB]at g1 ⊢;rw[g1];rfl;cases h;cases h;rename_i s d x q;rw[q];split at h;rename_i k0 n hn;have e1:ρ' x=.int k0 n:=by have:=p x _ hn;generalize ρ' x=z at this;cases this;rfl
 split at h;rename_i ds k hs hd;cases h;exact⟨_,by simp[e1,convert,aj C hs,aj C hd,Conv.intToInt],.int _ _⟩;cases h;cases h;rename_i t x i q;rw[q];split at h;rename_i sz els M;split at h;rename_i k n e hi Q;have e2:ρ' i=.int k n:=by have:=p i _ hi;generalize ρ' i=z at this;cases this;rfl
 split at h;rename_i V O;cases u:(Nat.beq V.size sz&&Nat.blt 0 sz)&&(decide (0<=n)&&decide (n<(els.length:Int)));rw[u]at h;simp at h;rw[u]at h;simp only[C',osI]at h;subst h;simp only[f',HL,Hy,Iv]at u;obtain⟨⟨rfl,a0⟩,h0,h1⟩:=u;have D:=p x _ M;generalize hy:ρ' x=y at D;cases D with
 |func fn K=>simp[Fn.still]at K
 |dat J H hk X=>refine⟨_,?_,.datP J H (i:=n.toNat) (by omega) a0 X⟩;simp[hy,e2,Instr.indexAt,asIntOf,aj C Q,Instr.sureAddr,h0,h1,aH C O,aM]
 |datN=>simp at h1;omega
 |datE=>simp at h1;omega
 cases h;cases h;cases h;rename_i t x f q;rw[q];split at h;rename_i sz els i j M;split at h;rename_i fs Q;split at h;rename_i fd K;rw[aP]at K;split at h;rename_i ti a5;cases u:Nat.beq ti.size 0|| !Nat.blt (j.toNat+fd.offset) sz with
 |true=>rw[u]at h;simp at h
 | false=>
  rw[u]at h;simp only[HJ,osI]at h;subst h;simp only[II,Jr,Iv]at u;obtain⟨hz,a1⟩:=u;have a3:=aZ hz;have a9:fs[f]? =some fd:=by simpa using K
  have D:=p x _ M;generalize hy:ρ' x=y at D;cases D with
  |func fn K=>simp[Fn.still]at K
  | @datP b o _ i j _ _ _ _ J H hi hj X=>simp only[D']at a1 ⊢;refine⟨_,?_,.datP J H hi a1 X⟩;simp[hy,Instr.fieldAt,aj C Q,a9,Instr.sureAddr,fieldPlace,aH C a5,a3,aM,In]
 cases h;cases h;cases h;cases h;rename_i t a q;rw[q];split at h;rename_i sz els i j M;have D:=p a _ M;generalize hy:ρ' a=y at D;cases D with
 |func fn K=>simp[Fn.still]at K
 |datP J H hi hj X=>simp only[D']at h;obtain⟨v',g1,g2⟩:=vY C R J H X h;exact⟨v',by simp[hy,g1],g2⟩
 cases h;rename_i t x lo hi mx q;rw[q];split at h;rename_i sz els M;split at h;rename_i l hh hl a8;split at h;rename_i e a b m Q u;split at h;rename_i V O;cases hs:Nat.beq V.size sz;rw[hs]at h;simp at h;rw[hs]at h;simp only[C',osI]at h;subst h;obtain rfl:=Ho hs;have D:=p x _ M;simp only[iS p hl,iS p a8,Option.map_none,HB];generalize ρ' x=y at D ⊢;cases D with
 |func fn K=>simp[Fn.still]at K
 | @dat b0 o k _ _ _ c _ J H hk X=>
  obtain⟨g,h1,h2,h3,h4,_⟩:=c9 (P:=E.P) (w:=w) (b:=true) u hk;simp only[JE,IR,I2]at g;have hm:=h4 rfl;have I:(Instr.sliceAt t (.slice (some ⟨b0,o,none⟩) els.length k) l hh none).run E.P w=.ok (.slice (some (if k=a then⟨b0,o,none⟩else(⟨b0,o,none⟩:Addr).add (a*V.size))) (b-a) (k-a)) w:=by simp only[Instr.sliceAt,Instr.slice,HB,aj C Q,Hv,g,aH C O,Ih,Ik];split<;>rfl
  refine⟨_,by rw[I];rfl,?_⟩;have N:((els.take b).drop a).length=b-a:=by simp;omega
  by_cases a7:k=a;have:(els.take b).drop a=[]:=by apply H0;omega
  rw[this,show b-a=0 by omega];exact .datE _ _ _;rw[Hm a7,aM,<-N];refine .dat J (λx M=>H x (IJ (I0 M))) (by omega) ?_;have D:=(X.take (b*V.size)).drop (a*V.size);grind [cb,bP,IJ,List.drop,List.take,Nat.min_eq_left,H5,List.drop_take,Ji,Nat.sub_mul]
 | datN=>
  obtain⟨g,h1,h2,h3,h4,_⟩:=c9 (P:=E.P) (w:=w) (b:=true) (cp:=0) u (Hw _);simp only[JE,IR,I2]at g;have Y:b=0:=by simp at h3;omega
  have Z:a=0:=by omega
  subst Y;subst Z;refine⟨.slice none 0 0,?_,by simpa using VR.datN _⟩;simp only[Jw]at g;simp[Instr.sliceAt,Instr.slice,aj C Q,g,aH C O]
 | datE _ ad k=>
  obtain⟨g,h1,h2,h3,h4,_⟩:=c9 (P:=E.P) (w:=w) (b:=true) (cp:=k) u (Jp _);simp only[JE,IR,I2]at g;have Y:b=0:=by simp at h3;omega
  have Z:a=0:=by omega
  subst Y;subst Z;simp only[Jw]at g;have I:(Instr.sliceAt t (.slice (some ad) 0 k) l hh none).run E.P w=.ok (.slice (some (if k=0 then ad else ad.add (0*V.size))) (0-0) (k-0)) w:=by simp only[Instr.sliceAt,Instr.slice,HB,aj C Q,Hv,g,aH C O,Ih,Ik];split<;>rfl
  exact⟨_,by rw[I];rfl,by simpa using VR.datE _ _ _⟩
 cases h;cases h;cases h;cases h;rename_i c q;rw[q];split at h;rename_i u;split at h;rename_i x r t ts a4 a6;split at h;rename_i sz els M;split at h;rename_i e Q;cases h;have D:=p x _ M;have ha:(c.args.map ρ')[0]? =some (ρ' x):=by rw[Array.getElem?_map,<-J',a4];rfl
 have ht:c.argTypes[0]? =some t:=by rw[<-J',a6];rfl
 refine⟨.int .i64 els.length,?_,.int _ _⟩;generalize ρ' x=y at D ha;have a2:∃ ad k,y=.slice ad els.length k:=by
  cases D with
  |func fn K=>simp[Fn.still]at K
  |dat=>exact⟨_,_,rfl⟩
  |datN=>exact⟨_,_,rfl⟩
  |datE=>exact⟨_,_,rfl⟩
 obtain⟨ad,k,rfl⟩:=a2;have N:(Builtin.len_ c.argTypes o.type (c.args.map ρ')).run E.P w=.ok (.int .i64 els.length) w:=by unfold Builtin.len_;rw[ha,ht];simp[aj C Q,goInt]
 simp only[resolve,u,HB,Ih,Hv,invoke,builtin,N];cases h;cases h;cases h;cases h;cases h
theorem _root_.Go.Hx:type_of% @List.getElem?_eq_some_iff:=@List.getElem?_eq_some_iff
theorem _root_.Go.HR:type_of% @List.mem_of_getElem?:=@List.mem_of_getElem?
abbrev _root_.Go.IG:=@Nat.add_mul
def isG(m:Nat):Bool:=Nat.ble (unk+3) m
def gLo(a o:Nat):Nat:=bif Nat.beq a 1 then o else o/a
def gOff(b o a:Nat):Nat:=bif Nat.beq b 1 then a+o else o+a*b
def gIdx(a o i:Nat):Nat:=bif Nat.beq a 1 then i+o else i+o/a
def gPtr(sz B i j:Nat):Value:=.func (.yield sz) ⟨[.pointer (some ⟨B,0,none⟩)]⟩ ⟨[.int .i64 (i:Nat),.int .i64 (j:Nat),.bool true]⟩
theorem lq(h:0<sz):gLo sz (lo*sz)=lo:=by
 unfold gLo;cases a:Nat.beq sz 1 with
 |true=>simp_all
 |false=>simp_all
theorem mT(sz o a:Nat):gOff sz o a=o+a*sz:=by grind [gOff,Nat.beq,Ho]
theorem FA(h:0<sz):gIdx sz (lo*sz) i=i+lo:=by
 unfold gIdx;cases a:Nat.beq sz 1 with
 |true=>simp_all
 |false=>simp_all
theorem isG_iff:isG m=true↔unk+3<=m:=by unfold isG;rw[HA]
theorem b7{o:Nat}(h:VR σ (.slice (some ⟨B,o,none⟩) n m) y)(r:isG m=true):
 (n=0/\∃ a,y=.slice a 0 0)∨∃ b d c lo k,σ B=some (b,d,c)/\y=.slice (some ⟨b,d+o,none⟩) n k/\n<=k/\lo+k<=c/\o=lo*gsz m:=by
 rw[isG_iff]at r;generalize l:m=m0 at h;cases h with
 |slice i n k f u=>omega
 |sliceU n f g=>omega
 |sliceV i n k f g=>omega
 |sliceE a a' k=>omega
 |gs0 B o m a q=>exact .inl ⟨rfl,a,rfl⟩
 |gs lo o n k m f g s p q=>subst l;exact .inr ⟨_,_,_,lo,k,f,rfl,g,s,p⟩
theorem VR.gsMk{k:Nat}(h:σ B=some (b,d,c))(f:isG m=true)(a:n<=k)(g:lo+k<=c):VR σ (.slice (some ⟨B,lo*gsz m,none⟩) n m) (.slice (some ⟨b,d+lo*gsz m,none⟩) n k):=
 .gs lo _ n k m h a g rfl (isG_iff.1 f)
theorem VR.gs0Mk(B o m:Nat)(a:Option Addr)(f:isG m=true):VR σ (.slice (some ⟨B,o,none⟩) 0 m) (.slice a 0 0):=
 .gs0 B o m a (isG_iff.1 f)
theorem oM(h:∀ x∈els,x.cells.size=sz)(a:els[i]? =some x)(j:Nat)(f:j<sz):(ap els)[i*sz+j]? =x.cells.toList[j]?:=by rw[<-lK h a,Io,Ht f,IB]
theorem wL(h:OR P σ w.heap[b]? d c (.gro els tl e))(l:(els++tl)[i]? =some x):
 ∃l',VRs σ x.cells.toList l'/\∀ (j:Nat) v',l'[j]? =some v'->w.cell? ⟨b,d+i*P.cellsOf e+j,none⟩=some v':=by
 obtain⟨c',lo,C,z,I,u,p,H,D⟩:=h;generalize q:P.cellsOf e=sz at*;have s:i<(els++tl).length:=(Hx.1 l).1;have k:x.cells.toList.length=sz:=by simpa using p x (HR l)
 have f:(i+1)*sz<=c*sz:=H5 _ (by omega);rw[JT]at f;have g:((c'.toList.drop (d+i*sz)).take sz).length=sz:=by simp;omega
 refine⟨(c'.toList.drop (d+i*sz)).take sz,VRs.of_get (by rw[g,k]) λj v a=>?_,λj v' a=>?_⟩;have r:j<sz:=by grind
 obtain⟨v',K,J⟩:=u (i*sz+j) v (by rw[oM p l j r];exact a);grind;rw[Io]at a;split at a;rw[IB]at a;have:c'[d+i*sz+j]? =some v':=by simpa using a
 simp[World.cell?,z,this];cases a
theorem zF(q:E.Ok){base:Nat}(z:nth els i=some x){l':Lh}(u:VRs σ x.cells.toList l')(l:∀ (m:Nat) v',l'[m]? =some v'->w.cell? ⟨b,base+m,none⟩=some v')(h:ldat E t els i j=some v):
 ∃v',(Instr.loadAt t (.pointer (some ⟨b,base+j,none⟩))).run E.P w=.ok v' w/\VR σ v v':=by
 unfold ldat at h;simp only[z]at h;split at h;rename_i d s;cases f:br d with
 | true=>
  simp only[f,C']at h;split at h;rename_i k r;cases a:Nat.beq ((x.cells.toList.drop j).take k.size).length k.size;rw[a]at h;simp at h;rw[a]at h;simp only[C',osI]at h;subst h;have a:=Ho a;have p:=(u.drop j).take k.size;refine⟨.agg ⟨(l'.drop j).take k.size⟩,?_,.agg p⟩;have C:((l'.drop j).take k.size).length=k.size:=by rw[p.length,a]
  have g:=Jq (P:=E.P) w ⟨b,base+j,none⟩ ((l'.drop j).take k.size) (λm v I=>by grind [aM,Io,IB])
  rw[C]at g;simp[Instr.loadAt,Instr.sureAddr,loadVar,cD q s,f,aH q r,g];cases h
 |false=>simp only[f,HJ]at h;rw[aP]at h;obtain⟨v',H,D⟩:=u.get h;refine⟨v',?_,D⟩;have:=l j v' H;simp[Instr.loadAt,Instr.sureAddr,loadVar,cD q s,f,this]
 cases h
def groQ (E:Env)(A:AH)(ρ:Operand->Lj)(op:Op):Lj:=
 match op with
 | .indexAddr t x i=>(match ρ x with
   | some (.slice (some ⟨B,o,none⟩) n m)=>bif isG m then(match ρ i,und E t with
     | some (.int _ k),some (.slice e)=>(match E.ti e with
       |some ie=>bif (Nat.beq ie.size (gsz m)&&Nat.blt 0 (gsz m))&&(decide (0<=k)&&decide (k<n))then some (gPtr (gsz m) B (gIdx (gsz m) o k.toNat) 0)else none
       |none=>none)
     |_,_=>none)else none
   | some (.func (.yield sz) ⟨[.pointer (some ⟨B,0,none⟩)]⟩ ⟨[.int .i64 a,.int .i64 j,.bool true]⟩)=>(match ρ i,und E t with
     | some (.int _ k),some (.array len el)=>(match E.ti el with
       |some ie=>bif (decide (0<=k)&&decide (k<len))&&Nat.blt (j.toNat+k.toNat*ie.size) sz then some (gPtr sz B a.toNat (j.toNat+k.toNat*ie.size))else none
       |none=>none)
     |_,_=>none)
   |_=>none)
 | .fieldAddr t x f=>(match ρ x with
   | some (.func (.yield sz) ⟨[.pointer (some ⟨B,0,none⟩)]⟩ ⟨[.int .i64 i,.int .i64 j,.bool true]⟩)=>(match und E t with
     | some (.struct fs)=>(match nth fs.toList f with
       | some fd=>(match E.ti fd.type with
         |some ti=>bif Nat.beq ti.size 0|| !Nat.blt (j.toNat+fd.offset) sz then none else some (gPtr sz B i.toNat (j.toNat+fd.offset))
         |none=>none)
       |none=>none)
     |_=>none)
   |_=>none)
 | .load t a=>(match ρ a with
   | some (.func (.yield sz) ⟨[.pointer (some ⟨B,0,none⟩)]⟩ ⟨[.int .i64 i,.int .i64 j,.bool true]⟩)=>(match A.t.get B with
     | some (.gro els tl e)=>(match E.ti e with
       |some ie=>bif Nat.beq ie.size sz then ldat E t (glue els tl) i.toNat j.toNat else none
       |none=>none)
     |_=>none)
   |_=>none)
 | .slice t x lo hi mx=>(match ρ x with
   | some (.slice (some ⟨B,o,none⟩) n m)=>bif isG m then(match optA ρ lo,optA ρ hi,optA ρ mx with
     | some l,some h,some z=>(match und E t,bnds n n l h z with
       | some (.slice e),some (a,b,_)=>(match E.ti e with
         |some ie=>bif Nat.beq ie.size (gsz m)&&Nat.blt 0 (gsz m)then some (.slice (some ⟨B,gOff (gsz m) o a,none⟩) (b-a) m)else none
         |none=>none)
       |_,_=>none)
     |_,_,_=>none)else none
   |_=>none)
 |_=>none
theorem Fy(H:E.Ok)(R:Rel E.P σ A w)(g:OpR σ ρ ρ')
 (h:groQ E A ρ o.op=some v):∃ v',(execOp ρ' o).run E.P w=.ok (.value v') w/\VR σ v v':=by
 unfold groQ at h;unfold execOp;split at h;rename_i t x i D;rw[D];split at h;rename_i B o n m O;cases N:isG m;rw[N]at h;cases h;rw[N]at h;simp only[C']at h;split at h;rename_i kk k e hi Q;have e2:ρ' i=.int kk k:=by have:=g i _ hi;generalize ρ' i=z at this;cases this;rfl
 split at h;rename_i J u;cases p:(Nat.beq J.size (gsz m)&&Nat.blt 0 (gsz m))&&(decide (0<=k)&&decide (k<(n:Int)));rw[p]at h;simp at h;rw[p]at h;simp only[C',osI]at h;subst h;simp only[f',HL,Hy,Iv]at p;obtain⟨⟨Y,U⟩,h0,h1⟩:=p;have I:=g x _ O;generalize S:ρ' x=y at I;rcases b7 I N with⟨en,a,ey⟩|⟨b,d,c,lo,kq,s,ey,hn,hc,eo⟩;subst en;simp at h1;omega;subst ey;rw[show gIdx (gsz m) o k.toNat=k.toNat+lo by rw[eo];exact FA U];rw[eo]at S;refine⟨.pointer (some ⟨b,d+(k.toNat+lo)*gsz m+0,none⟩),?_,.gp (gsz m) (k.toNat+lo) 0 s⟩;have ea:d+lo*gsz m+k.toNat*J.size=d+(k.toNat+lo)*gsz m+0:=by rw[Y,IG];omega
 simp[S,e2,Instr.indexAt,asIntOf,aj H Q,Instr.sureAddr,h0,h1,aH H u,aM];simpa using ea;cases h;cases h;rename_i sz B a j O;split at h;rename_i kk k a3 el hi Q;have e2:ρ' i=.int kk k:=by have:=g i _ hi;generalize ρ' i=z at this;cases this;rfl
 split at h;rename_i J u;cases p:(decide (0<=k)&&decide (k<(a3:Int)))&&Nat.blt (j.toNat+k.toNat*J.size) sz;rw[p]at h;simp at h;rw[p]at h;simp only[C',osI]at h;subst h;simp only[f',HL]at p;obtain⟨⟨h0,h1⟩,_⟩:=p;have I:=g x _ O;generalize S:ρ' x=y at I;cases I with
 |func fn X=>simp[Fn.still]at X
 | @gp _ b d c _ a j s=>refine⟨_,?_,.gp sz a (j+k.toNat*J.size) s⟩;simp[S,e2,Instr.indexAt,asIntOf,aj H Q,Instr.sureAddr,h0,h1,aH H u,aM,In]
 cases h;cases h;cases h;rename_i t x f D;rw[D];split at h;rename_i sz B i j O;split at h;rename_i fs Q;split at h;rename_i fd X;rw[aP]at X;split at h;rename_i ti a6;cases p:Nat.beq ti.size 0|| !Nat.blt (j.toNat+fd.offset) sz with
 |true=>rw[p]at h;simp at h
 | false=>
  rw[p]at h;simp only[HJ,osI]at h;subst h;simp only[II,Jr,Iv]at p;obtain⟨hz,a9⟩:=p;have a5:=aZ hz;have b3:fs[f]? =some fd:=by simpa using X
  have I:=g x _ O;generalize S:ρ' x=y at I;cases I with
  |func fn X=>simp[Fn.still]at X
  | @gp _ b d c _ i j s=>simp only[D']at a9 ⊢;refine⟨_,?_,.gp sz i (j+fd.offset) s⟩;simp[S,Instr.fieldAt,aj H Q,b3,Instr.sureAddr,fieldPlace,aH H a6,a5,aM,In]
 cases h;cases h;cases h;cases h;rename_i t a D;rw[D];split at h;rename_i sz B i j O;split at h;rename_i els tl e hB;rw[bW]at h;split at h;rename_i J u;cases p:Nat.beq J.size sz;rw[p]at h;cases h;rw[p]at h;obtain rfl:=Ho p;simp only[C']at h;have I:=g a _ O;generalize S:ρ' a=y at I;cases I with
 |func fn X=>simp[Fn.still]at X
 | @gp _ b d c _ i j s=>
  simp only[D']at h;have a7:=R.at hB rfl s;have b4:E.P.cellsOf e=J.size:=by simp[Program.cellsOf,H.ti _ _ u]
  have a1:∃ x,nth (els++tl) i=some x:=by grind [ldat]
  obtain⟨x,a0⟩:=a1;have V:=a0;rw[aP]at V;obtain⟨l',hl,M⟩:=wL a7 V;rw[b4]at M;obtain⟨v',g1,g2⟩:=zF H a0 hl M h;exact⟨v',by simp[S,g1],g2⟩
 cases h;cases h;cases h;rename_i t x lo hi mx D;rw[D];split at h;rename_i B o n m O;cases N:isG m;rw[N]at h;cases h;rw[N]at h;simp only[C']at h;split at h;rename_i l hh zz hl b1 a4;split at h;rename_i e a b mm Q p;split at h;rename_i J u;cases hs:Nat.beq J.size (gsz m)&&Nat.blt 0 (gsz m);rw[hs]at h;simp at h;rw[hs]at h;simp only[C',osI]at h;subst h;simp only[f',Hy,Iv]at hs;obtain⟨Y,U⟩:=hs;have I:=g x _ O;simp only[iS g hl,iS g b1,iS g a4,HB];generalize ρ' x=y at I ⊢;rcases b7 I N with⟨en,Z,ey⟩|⟨b0,d,c,q,k,s,ey,hn,hc,eo⟩;subst en;subst ey;obtain⟨r,h1,h2,h3,h4,_⟩:=c9 (P:=E.P) (w:=w) (b:=true) (cp:=0) p (Hw _);have b5:b=0:=by omega
 have c0:a=0:=by omega
 have a8:mm=0:=by omega
 subst b5;subst c0;subst a8;simp only[ite_self]at r;refine⟨.slice Z 0 0,?_,by simpa using VR.gs0Mk _ _ m Z N⟩;cases Z with
 |none=>simp[Instr.sliceAt,Instr.slice,aj H Q,r,aH H u]
 | some Z=>
  have C:(Instr.sliceAt t (.slice (some Z) 0 0) l hh zz).run E.P w=.ok (.slice (some (if 0=0 then Z else Z.add (0*J.size))) (0-0) (0-0)) w:=by simp only[Instr.sliceAt,Instr.slice,HB,aj H Q,Hv,r,aH H u,Ih,Ik];rfl
  rw[C];rfl
 subst ey;rw[eo];obtain⟨r,h1,h2,h3,h4,_⟩:=c9 (P:=E.P) (w:=w) (b:=true) p hn;generalize hK:(if zz.isSome then mm else k)=K at r;have c1:mm<=K/\K<=k:=by grind
 have C:(Instr.sliceAt t (.slice (some ⟨b0,d+q*gsz m,none⟩) n k) l hh zz).run E.P w=.ok (.slice (some (if K=a then⟨b0,d+q*gsz m,none⟩else(⟨b0,d+q*gsz m,none⟩:Addr).add (a*J.size))) (b-a) (K-a)) w:=by simp only[Instr.sliceAt,Instr.slice,HB,aj H Q,Hv,r,aH H u,Ih,Ik];split<;>rfl
 refine⟨_,by rw[C];rfl,?_⟩;by_cases a2:K=a;rw[Ht a2,show b-a=0 by omega,show K-a=0 by omega];exact VR.gs0Mk _ _ m _ N;rw[Hm a2,aM,mT,Y,show q*gsz m+a*gsz m=(q+a)*gsz m by rw[IG],show d+q*gsz m+a*gsz m=d+(q+a)*gsz m by rw[IG];omega];exact VR.gsMk s N (by omega) (by omega);cases h;cases h;cases h;cases h;cases h
theorem nq{rest:Lh}(h:OR P σ w.heap[b]? d c (.arr els rest n e))(a:(els++rest)[i]? =some v):
 ∃v',w.cell? ⟨b,d+i,none⟩=some v'/\VR σ v v':=by obtain⟨⟨c',lo,p,g,s,f,r⟩,q⟩:=h;obtain⟨v',l,k⟩:=f i v a;exact⟨v',by simp[World.cell?,g,l],k⟩
theorem oL{P:Program}{σ:Sig}{w:World}{b:Nat}:∀ {l:Lh}(o:Nat),(∀(j:Nat) v,l[j]? =some v->∃ v',w.cell? ⟨b,o+j,none⟩=some v'/\VR σ v v')->
 ∃l',VRs σ l l'/\(∀(j:Nat) v',l'[j]? =some v'->w.cell? ⟨b,o+j,none⟩=some v')
 | [],o,_=>⟨[],.nil,λj v' h=>by simp at h⟩
 | x::l,o,hget=>by
  obtain⟨x',r,g⟩:=hget 0 x (by simp);obtain⟨l',f,q⟩:=oL (P:=P) (l:=l) (o+1) (λj v a=>by obtain⟨v',p,k⟩:=hget (j+1) v (by simpa using a);exact⟨v',by rw[show o+1+j=o+(j+1)by omega];exact p,k⟩)
  refine⟨x'::l',.cons g f,λj v' a=>?_⟩;grind
def arrQ (E:Env)(A:AH)(ρ:Operand->Lj)(op:Op):Lj:=
 match op with
 | .indexAddr t x i=>(match ρ x with
   | some (.pointer (some ⟨B,0,none⟩))=>(match ρ i,und E t with
     | some (.int _ k),some (.array len el)=>(match E.ti el with
       |some ie=>bif (Nat.beq ie.size 1&&Nat.ble 64 len)&&(decide (0<=k)&&decide (k<len))then some (gPtr 1 B k.toNat 0)else none
       |none=>none)
     |_,_=>none)
   |_=>none)
 | .load t a=>(match ρ a with
   | some (.pointer (some ⟨B,o,none⟩))=>(match A.t.get B with
     | some (.arr els rest n e)=>(match und E t with
       | some d=>bif br d then(match E.ti t with
        |some ti=>bif Nat.beq o 0&&Nat.beq ti.size n then some (.agg ⟨els⟩)else none
        | none=>none)
         else bif Nat.ble n o then nth rest (o-n)else none
       |none=>none)
     |_=>none)
   | some (.func (.yield sz) ⟨[.pointer (some ⟨B,0,none⟩)]⟩ ⟨[.int .i64 i,.int .i64 j,.bool true]⟩)=>(match A.t.get B with
     | some (.arr els rest n e)=>(match und E t with
       |some d=>bif br d|| !(Nat.beq sz 1&&Nat.beq j.toNat 0)then none else nth els i.toNat
       |none=>none)
     | some (.cells c e)=>(match und E t with
       |some d=>bif br d|| !(Nat.beq sz 1&&Nat.beq j.toNat 0)then none else nth c i.toNat
       |none=>none)
     |_=>none)
   |_=>none)
 |_=>none
theorem GZ(I:E.Ok)(R:Rel E.P σ A w)(q:OpR σ ρ ρ')
 (h:arrQ E A ρ o.op=some v):∃ v',(execOp ρ' o).run E.P w=.ok (.value v') w/\VR σ v v':=by
 unfold arrQ at h;unfold execOp;split at h;rename_i t x i K;rw[K];split at h;rename_i B M;split at h;rename_i kk k O el hi u;have e2:ρ' i=.int kk k:=by have:=q i _ hi;generalize ρ' i=z at this;cases this;rfl
 split at h;rename_i ie a0;cases f:(Nat.beq ie.size 1&&Nat.ble 64 O)&&(decide (0<=k)&&decide (k<(O:Int)));rw[f]at h;simp at h;rw[f]at h;simp only[C',osI]at h;subst h;simp only[f',HL,Hy]at f;obtain⟨⟨Z,_⟩,h0,h1⟩:=f;have p:=q x _ M;generalize s:ρ' x=y at p;cases p with
 | @ptr _ b d c i hσ=>refine⟨.pointer (some ⟨b,d+k.toNat*1+0,none⟩),?_,.gp 1 k.toNat 0 hσ⟩;simp[s,e2,Instr.indexAt,asIntOf,aj I u,Instr.sureAddr,h0,h1,aH I a0,aM,Z]
 cases h;cases h;cases h;rename_i t a K;rw[K];split at h;rename_i B o M;split at h;rename_i els N n e U;have p:=q a _ M;generalize s:ρ' a=y at p;cases p with
 | @ptr _ b d c i hσ=>
  have r:=R.at U rfl hσ;obtain⟨_,Q⟩:=id r;split at h;rename_i dd u;cases g:br dd with
  | true=>
   simp only[g,C']at h;split at h;rename_i X Y;cases f:Nat.beq o 0&&Nat.beq X.size n;rw[f]at h;simp at h;rw[f]at h;simp only[C',osI]at h;subst h;simp only[f',Hy]at f;obtain⟨rfl,hn⟩:=f;obtain⟨V,g1,g2⟩:=oL (P:=E.P) (σ:=σ) (w:=w) (b:=b) (l:=els) (d+0) (λj v p=>by obtain⟨v',H,D⟩:=nq r (i:=j) (v:=v) (by grind);exact⟨v',by simpa using H,D⟩)
   have C:=Jq (P:=E.P) w ⟨b,d+0,none⟩ V (λj v p=>by rw[aM];exact g2 j v p);have hl:V.length=X.size:=by rw[g1.length,Q,hn]
   rw[hl]at C;refine⟨.agg ⟨V⟩,?_,.agg g1⟩;have J:(loadCells ⟨b,d,none⟩ X.size).run E.P w=.ok V.toArray w:=by simpa using C
   simp[s,Instr.loadAt,Instr.sureAddr,loadVar,cD I u,g,aH I Y,J];cases h
  |false=>simp only[g,HJ]at h;cases f:Nat.ble n o;rw[f]at h;simp at h;rw[f]at h;simp only[C',aP]at h;rw[HA]at f;obtain⟨v',H,D⟩:=nq r (i:=o) (v:=v) (by grind);exact⟨v',by simp[s,Instr.loadAt,Instr.sureAddr,loadVar,cD I u,g,H],D⟩
  cases h
 cases h;rename_i sz B i j M;split at h;rename_i els N n e U;split at h;rename_i dd u;cases f:br dd|| !(Nat.beq sz 1&&Nat.beq j.toNat 0)with
 |true=>rw[f]at h;simp at h
 | false=>
  rw[f]at h;simp only[HJ,aP]at h;simp only[II,Jr,f',Hy]at f;obtain⟨g,rfl,S⟩:=f;have p:=q a _ M;generalize s:ρ' a=y at p;cases p with
  |func fn hf=>simp[Fn.still]at hf
  | @gp _ b d c _ i j hσ=>simp only[D']at h S;subst S;have r:=R.at U rfl hσ;obtain⟨v',H,D⟩:=nq r (i:=i) (v:=v) (by grind);exact⟨v',by simp[s,Instr.loadAt,Instr.sureAddr,loadVar,cD I u,g,H],D⟩
 cases h;rename_i cs e U;split at h;rename_i dd u;cases f:br dd|| !(Nat.beq sz 1&&Nat.beq j.toNat 0)with
 |true=>rw[f]at h;simp at h
 | false=>
  rw[f]at h;simp only[HJ,aP]at h;simp only[II,Jr,f',Hy]at f;obtain⟨g,rfl,S⟩:=f;have p:=q a _ M;generalize s:ρ' a=y at p;cases p with
  |func fn hf=>simp[Fn.still]at hf
  | @gp _ b d c _ i j hσ=>simp only[D']at h S;subst S;obtain⟨b',d',k',v',q0,H,D⟩:=gL R (B:=B) (i:=i) (c:=cs) (v:=v) (by simp[look,U]) h;rw[hσ]at q0;cases q0;exact⟨v',by simp[s,Instr.loadAt,Instr.sureAddr,loadVar,cD I u,g,H],D⟩
 cases h;cases h;cases h;cases h
def idxB(E:Env)(t:TypeId)(x i:Value):Lj:=
 match x with
 | .func (.yield sz) ⟨els⟩ ⟨[.int .i64 a,.int .i64 b]⟩=>bif E.sym then none else(match i,und E t with
   | .int _ n,some (.array len e)=>(match E.ti e with
     |some ie=>bif (Nat.beq ie.size sz&&(decide (0<=n)&&decide (n<(len:Int))))&&Nat.blt (a.toNat+n.toNat) els.length then some (.func (.yield sz) ⟨els⟩ ⟨[.int .i64 (a.toNat+n.toNat:Nat),.int .i64 b]⟩)else none
     |none=>none)
   |_,_=>none)
 |_=>idxA E t x i
theorem Fd(g:E.Ok){i r:Value}(s:VR σ x x')(q:VR σ i r)(h:idxB E t x i=some v)(w:World):
 ∃v',(Instr.indexAt t x' r).run E.P w=.ok v' w/\VR σ v v':=by
 unfold idxB at h;split at h;rename_i sz els a b;cases u:E.sym with
 |true=>rw[u]at h;simp at h
 | false=>
  rw[u]at h;simp only[HJ]at h;split at h;rename_i k n l e D;cases q;split at h;rename_i C p;cases f:(Nat.beq C.size sz&&(decide (0<=n)&&decide (n<(l:Int))))&&Nat.blt (a.toNat+n.toNat) els.length;rw[f]at h;simp at h;rw[f]at h;simp only[C',osI]at h;subst h;simp only[f',HL,Hy,Iv]at f;obtain⟨⟨rfl,J,I⟩,z⟩:=f;cases s with
  |func K H=>simp[Fn.still]at H
  | @datP b0 o _ a b _ _ _ _ hro hsz q hj hc=>simp only[D']at z ⊢;refine⟨_,?_,.datP hro hsz z hj hc⟩;simp[Instr.indexAt,asIntOf,aj g D,Instr.sureAddr,J,I,aH g p,aM,Nat.add_mul];omega
  cases h;cases h
 exact idx_ok g s q h w
def vT(E:Env)(A:AH)(t:TypeId)(a:Value):Lj:=
 match a with
 | .func (.yield _) ⟨els⟩ ⟨[.int .i64 i,.int .i64 j]⟩=>bif E.sym then none else ldat E t els i.toNat j.toNat
 |_=>vU E A t a
theorem zB(k:E.Ok)(R:Rel E.P σ A w){a:Value}(g:VR σ a a')(h:vT E A t a=some v):
 ∃v',(Instr.loadAt t a').run E.P w=.ok v' w/\VR σ v v':=by
 unfold vT at h;split at h;rename_i sz els i j;cases f:E.sym with
 |true=>rw[f]at h;simp at h
 | false=>
  rw[f]at h;simp only[HJ]at h;cases g with
  |func z q=>simp[Fn.still]at q
  |datP p l s r u=>grind [D',vY]
 exact vR k R g h
theorem _root_.Go.Jj:type_of% @Array.toList_map:=@Array.toList_map
abbrev _root_.Go.Ii:=@List.getElem?_append
theorem _root_.Go.Jk:type_of% @Nat.mod_eq_of_lt:=@Nat.mod_eq_of_lt
theorem _root_.Go.Iy:type_of% @Nat.mod_lt:=@Nat.mod_lt
theorem _root_.Go.JP:type_of% @Array.length_toList:=@Array.length_toList
def nnil:Value->Bool
 | .pointer none| .nilIface| .nilFunc=>false
 | .func (.method _) _ _=>false
 |_=>true
def jY(E:Env)(A:AH)(ρ:Operand->Lj)(b:Builtin)(c:Call)(ty:TypeId):Lj:=
 match b with
 | .len=>(match c.args.toList,c.argTypes.toList with
   |x::_,t::_=>(match ρ x with|some v=>lenA E A t v|none=>none)
   |_,_=>none)
 | .max=>(match mapO ρ c.args.toList with
   |some vs=>bif vs.all scal then(match prun E.P (Builtin.max_ c.argTypes ty ⟨vs⟩)with|some v=>bif flat v then some v else none|none=>none)else none
   |none=>none)
 | .min=>(match mapO ρ c.args.toList with
   |some vs=>bif vs.all scal then(match prun E.P (Builtin.min_ c.argTypes ty ⟨vs⟩)with|some v=>bif flat v then some v else none|none=>none)else none
   |none=>none)
 | .unsafeSliceData=>(match c.args.toList with
   | [x]=>(match ρ x with
     |some (.slice none _ _)=>some (.pointer none)
     |some (.slice (some ⟨B,i,none⟩) n k)=>bif Nat.beq n 0||Nat.beq k 0 then none else some (.pointer (some ⟨B,i,none⟩))
     |_=>none)
   |_=>none)
 |_=>none
def qv(E:Env)(x:Value)(a:TypeId)(b:Bool):Lj:=bif E.sym then none else none
theorem x4(k:E.Ok){xt a:TypeId}{f:Bool}(l:VR σ x x')(h:qv E x a f=some v)(w:World):
 ∃v',(Instr.typeAssert x' xt a f).run E.P w=.ok v' w/\VR σ v v':=by unfold qv at h;cases g:E.sym<;>rw[g]at h<;>cases h
def bm(E:Env)(A:AH)(ρ:Operand->Lj)(ty:TypeId)(op:Op):Lj:=
 match op with
 | .move x=>ρ x
 | .assign x=>ρ x
 | .pick c a b=>(match ρ c with|some (.bool t)=>(match t with|true=>ρ a|false=>ρ b)|_=>none)
 | .nilCheck x=>(match ρ x with|some v=>bif nnil v then some v else none|none=>none)
 | .build t parts=>(match j0 ρ parts.toList with|some ps=>xQ E t ps|none=>none)
 | .binOp op t x y _=>(match ρ x,ρ y with|some a,some b=>binA E op t x y a b|_,_=>none)
 | .unOp op _ x=>(match ρ x with|some (.bool b)=>(match op with| .not=>some (.bool (!b))|_=>none)|some a=>bif scal a then(match prun E.P (Op.unary op a)with|some v=>bif flat v then some v else none|none=>none)else none|none=>none)
 | .convert s d x=>(match ρ x with|some v=>Ad E A s d v|none=>none)
 | .makeInterface t x=>(match und E t,ρ x with|some (.interface _),_=>none|some _,some v=>some (.iface t v)|_,_=>none)
 | .makeFunc fn first captured=>bif Fn.still fn then(match mapO ρ first.toList,mapO ρ captured.toList with|some a,some b=>some (.func fn ⟨a⟩ ⟨b⟩)|_,_=>none)else none
 | .slice t x lo hi mx=>(match ρ x,optA ρ lo,optA ρ hi,optA ρ mx with|some v,some l,some h,some m=>sliA E t v l h m|_,_,_,_=>none)
 | .fieldAddr t x f=>(match ρ x with|some v=>fldA E t v f|none=>none)
 | .field t x f=>(match ρ x with|some v=>oA E t v f|none=>none)
 | .indexAddr t x i=>(match ρ x,ρ i with|some a,some b=>idxB E t a b|_,_=>none)
 | .index t x i=>(match ρ x,ρ i with|some a,some b=>lp E t a b|_,_=>none)
 | .lookup t x i cok=>(match ρ x,ρ i with|some a,some b=>gq E A t a b cok|_,_=>none)
 | .load t a=>(match ρ a with|some v=>vT E A t v|none=>none)
 | .extract t i=>(match ρ t with|some (.tuple ⟨vs⟩)=>nth vs i|_=>none)
 | .typeAssert x _ t cok=>(match ρ x with|some v=>qv E v t cok|none=>none)
 | .call c=>(match c.callee with| .builtin b=>jY E A ρ b c ty|_=>none)
 |_=>none
theorem kl{a :Type}{l:Array a}{x: a}{r:List a}(h:l.toList=x::r):l[0]? =some x:=by rw[<-J',h];rfl
theorem vl(N:E.Ok)(R:Rel E.P σ A w)(f:OpR σ ρ ρ'){b:Builtin}{c:Call}{cs:Array Bool}
 (h:jY E A ρ b c ty=some v):∃ v',(builtin b c.argTypes ty cs (c.args.map ρ')).run E.P w=.ok (.value v') w/\VR σ v v':=by
 unfold jY at h;split at h;split at h;rename_i x r t ts K Q;split at h;rename_i u q;have S:(c.args.map ρ')[0]? =some (ρ' x):=by rw[Array.getElem?_map,kl K];rfl
 obtain⟨C,z⟩:=len_ok N R (ty:=ty) (f x u q) h (kl Q) S;exact⟨v,by simp[builtin,C],bI z σ⟩;cases h;cases h;split at h;rename_i vs g;cases l:vs.all scal;rw[l]at h;simp at h;rw[l]at h;simp only[C']at h;obtain⟨C,z⟩:=fh (σ:=σ) h w;have e:c.args.map ρ'=⟨vs⟩:=by apply H9.1;rw[Jj];exact jb l (eC f g)
 exact⟨v,by simp[builtin,e,C],z⟩;cases h;split at h;rename_i vs g;cases l:vs.all scal;rw[l]at h;simp at h;rw[l]at h;simp only[C']at h;obtain⟨C,z⟩:=fh (σ:=σ) h w;have e:c.args.map ρ'=⟨vs⟩:=by apply H9.1;rw[Jj];exact jb l (eC f g)
 exact⟨v,by simp[builtin,e,C],z⟩;cases h;split at h;rename_i x K;have e:c.args.map ρ'= #[ρ' x]:=by grind [H9,Jj]
 split at h;rename_i n k q;cases h;have p:=f x _ q;generalize ρ' x=y at e p;cases p;exact⟨_,by simp[builtin,e,Lib.run_unsafeSliceData_nil],.ptr0⟩;rename_i B i n k q;simp only[cond_eq_ite,Iu,Hy]at h;split at h;cases h;rename_i s;cases h;have p:=f x _ q;have H:∃ b d M D,σ B=some (b,d,M)/\ρ' x=.slice (some ⟨b,d+i,none⟩) n D/\D≠0:=by
  generalize ρ' x=y at p;cases p with
  |slice _ _ _ a J=>grind
  |sliceU _ a J=>grind
  |sliceV _ _ _ a J=>grind
  |sliceE=>exact absurd (.inl rfl) s
  |gs0=>exact absurd (.inl rfl) s
  |gs lo U V X m a J hc Y Z=>grind
 obtain⟨b,d,M,D,a,O,I⟩:=H;rw[O]at e;refine⟨_,?_,.ptr i a⟩;simp only[builtin,e,HB,Lib.run_unsafeSliceData_row w _ _ _ _ _ I,Hv];rfl;cases h;cases h;cases h
theorem vm(D:E.Ok)(R:Rel E.P σ A w)(k:OpR σ ρ ρ')
 (h:bm E A ρ o.type o.op=some v):∃ v',(execOp ρ' o).run E.P w=.ok (.value v') w/\VR σ v v':=by
 unfold bm at h;unfold execOp;split at h;rename_i x g;rw[g];exact⟨_,rfl,k x v h⟩;rename_i x g;rw[g];exact⟨_,rfl,k x v h⟩;rename_i c a b g;rw[g];split at h;rename_i t ht;have Z:=k c _ ht;have e:ρ' c=.bool t:=by generalize ρ' c=y at Z;cases Z;rfl
 split at h;exact⟨ρ' a,by simp[e,asBool],k a v h⟩;exact⟨ρ' b,by simp[e,asBool],k b v h⟩;cases h;rename_i x g;rw[g];split at h;rename_i u C;cases Q:nnil u;rw[Q]at h;simp at h;rw[Q]at h;simp only[C',osI]at h;subst h;have I:=k x _ C;refine⟨ρ' x,?_,I⟩;simp only;generalize ρ' x=x' at I;cases I<;>first|rfl|(simp[nnil]at Q;done)|skip
 rename_i O _ _ _ _ hf I hy;cases O<;>first|rfl|(simp[nnil]at Q)
 cases h;rename_i t K g;rw[g];split at h;rename_i ps U;have hp:PRs σ ps (K.map λp=>(p.1,ρ' p.2)).toList:=by rw[Jj];exact mg k U
 obtain⟨v',r,z⟩:=Ak D hp h w;simp_all;cases h;rename_i op t x y yt g;rw[g];split at h;rename_i a b J H;obtain⟨v',r,z⟩:=bin_ok D (k x a J) (k y b H) h w;exact⟨v',by simp only[HB]at r ⊢;rw[r];rfl,z⟩;cases h;rename_i op S x g;rw[g];split at h;rename_i b H;split at h;cases h;have I:=k x _ H;have e:ρ' x=.bool b:=by generalize ρ' x=y at I;cases I;rfl
 exact⟨.bool (!b),by simp[e,Op.unary],.bool _⟩;cases h;rename_i a a1 J;cases N:scal a;rw[N]at h;simp at h;rw[N]at h;simp only[C']at h;obtain⟨h1,h2⟩:=fh (σ:=σ) h w;have e:=l5 N (k x a J);exact⟨v,by simp[e,h1],h2⟩;cases h;rename_i s d x g;rw[g];split at h;rename_i u C;obtain⟨v',r,z⟩:=Gz D R (k x u C) h;exact⟨v',by simp[r],z⟩;cases h;rename_i t x g;rw[g];split at h;cases h;rename_i d u a0 C hd;cases h;refine⟨.iface t (ρ' x),?_,.iface t (k x u hd)⟩;simp only[HB,Instr.makeInterface,aj D C,Hv];simp_all;cases h;rename_i O first q g
 rw[g];cases N:Fn.still O;rw[N]at h;simp at h;rw[N]at h;simp only[C']at h;split at h;rename_i a b J H;cases h;refine⟨.func O ⟨first.toList.map ρ'⟩ ⟨q.toList.map ρ'⟩,?_,.func O N (eC k J) (eC k H)⟩;have e1:(⟨first.toList.map ρ'⟩:Array Value)=first.map ρ':=by apply H9.1;simp
 have e2:(⟨q.toList.map ρ'⟩:Array Value)=q.map ρ':=by apply H9.1;simp
 rw[e1,e2];rfl;cases h;rename_i t x lo hi mx g;rw[g];split at h;rename_i u l hh m C hl V hm;obtain⟨v',r,z⟩:=sli_ok D (k x u C) h w;refine⟨v',?_,z⟩;simp only[iS k hl,iS k V,iS k hm,HB,r];rfl;cases h;rename_i t x f g;rw[g];split at h;rename_i u C;obtain⟨v',r,z⟩:=fld_ok D (k x u C) h w;exact⟨v',by simp[r],z⟩;cases h;rename_i t x f g;rw[g];split at h;rename_i u C;obtain⟨v',r,z⟩:=zX D (k x u C) h w;exact⟨v',by simp[r],z⟩;cases h;rename_i t x i g;rw[g];split at h;rename_i a b J H;obtain⟨v',r,z⟩:=Fd D (k x a J) (k i b H) h w;exact⟨v',by simp[r],z⟩;cases h;rename_i t x i g;rw[g];split at h;rename_i a b J H;obtain⟨v',r,z⟩:=zI D (k x a J) (k i b H) h w;exact⟨v',by simp[r],z⟩;cases h;rename_i t x i Y g;rw[g];split at h;rename_i a b J H;obtain⟨v',r,z⟩:=vO D R (k x a J) (k i b H) h;exact⟨v',by simp[r],z⟩;cases h;rename_i t a g;rw[g];split at h;rename_i u C;obtain⟨v',r,z⟩:=zB D R (k a u C) h;exact⟨v',by simp[r],z⟩;cases h;rename_i t i g;rw[g];split at h;rename_i vs C;have I:∃ vs',ρ' t=.tuple ⟨vs'⟩/\VRs σ vs vs':=by
  have I:=k t _ C;generalize ρ' t=x' at I;cases I with
  |tuple M=>exact⟨_,rfl,M⟩
 obtain⟨vs',ex,M⟩:=I;rw[aP]at h;obtain⟨v',r,z⟩:=M.get h;have X:(⟨vs'⟩:Array Value)[i]? =some v':=by simpa using r
 exact⟨v',by simp[Instr.extract,ex,X],z⟩;cases h;rename_i x S t Y g;rw[g];split at h;rename_i u C;obtain⟨v',r,z⟩:=x4 D (xt:=S) (k x u C) h w;exact⟨v',by simp[r],z⟩;cases h;rename_i c g;rw[g];split at h;rename_i b H;obtain⟨v',r,z⟩:=vl D R k (cs:=c.args.map fun| .const _=>true|_=>false) h;exact⟨v',by simp only[resolve,H,HB,Ih,Hv,invoke];exact r,z⟩;cases h;cases h
def quiet(E:Env)(A:AH)(ρ:Operand->Lj)(ty:TypeId)(op:Op):Lj:=
 match E.sym with
 |false=>bm E A ρ ty op
 |true=>(match symQ E ρ op with|some v=>some v|none=>(match groQ E A ρ op with|some v=>some v|none=>(match arrQ E A ρ op with|some v=>some v|none=>bm E A ρ ty op)))
theorem qW(f:E.Ok)(R:Rel E.P σ A w)(a:OpR σ ρ ρ')
 (h:quiet E A ρ o.type o.op=some v):∃ v',(execOp ρ' o).run E.P w=.ok (.value v') w/\VR σ v v':=by grind [quiet,vm,osI,Cr,Fy,GZ]
def rep(z:Lh):Nat->Lh
 |0=>[]
 |n+1=>z++rep z n
theorem dN(z:Lh):∀ n,(rep z n).length=n*z.length
 |0=>by simp[rep]
 |n+1=>by simp[rep,dN z n,IG];omega
theorem jV{z:Lh}(h:z.all scal=true):∀ n,(rep z n).all scal=true
 |0=>rfl
 |n+1=>by simp only[rep,List.all_append,h,jV h n];rfl
theorem po(z:Lh)(f:0<z.length):∀ (n i:Nat),i<n*z.length->(rep z n)[i]? =z[i%z.length]?
 |0,i,h=>by simp at h
 |n+1,i,h=>by simp only[rep,Ii];by_cases a:i<z.length;rw[Ht a,Jk a];rw[Hm a,po z f n (i-z.length) (by rw[IG]at h;omega)];congr 1;rw[Nat.mod_eq_sub_mod (Nat.le_of_not_lt a)]
theorem gG(z:Array Value)(n:Nat)(a:0<z.size∨n=0):(Array.range (n*z.size)).map (λi=>z[i%z.size]!)=⟨rep z.toList n⟩:=by rcases a with a|rfl;apply H9.1;apply I3;grind [Iy,po,JP,dN,Jv];simp[rep]
def bT (E :Env)(ρ:Operand->Lj)(op:Op):Option (AObj×(Nat->Value)):=
 match op with
 | .alloc e=>(match E.ti e with
   | some i=>(match i.zero with
     |some z=>let cs:=z.cells.toList;bif cs.all scal then some (.cells cs e,λid=>.pointer (some ⟨id,0,none⟩))else none
     |none=>none)
   |none=>none)
 | .box e x=>(match ρ x with|some v=>some (.cells v.cells.toList e,λid=>.pointer (some ⟨id,0,none⟩))|none=>none)
 | .buildSlice t len parts=>(match und E t,j0 ρ parts.toList with
   | some (.slice e),some ps=>(match E.ti e with
     | some ie=>(match ie.zero with
       | some z=>let cs:=z.cells.toList
         bif cs.all scal&&(Nat.beq cs.length ie.size&&(Nat.blt 0 ie.size&&Nat.ble (len*ie.size) 16777216))then
          (match qc (λi=>some (i*ie.size,ie.size)) (rep cs len) ps with
          |some r=>some (.cells r e,λid=>.slice (some ⟨id,0,none⟩) len len)
          |none=>none)else none
       |none=>none)
     |none=>none)
   |_,_=>none)
 | .makeSlice t l c=>(match und E t,ρ l,ρ c with
   | some (.slice e),some (.int _ l),some (.int _ c)=>(match E.ti e with
     | some ie=>(match ie.zero with
       | some z=>let cs:=z.cells.toList
         bif cs.all scal&&(Nat.beq cs.length ie.size&&(Nat.blt 0 ie.size&&(decide (0<=l)&&(decide (l<=c)&&(decide (c<=281474976710656)&&Nat.ble (ie.bytes*c.toNat) 281474976710656)))))then
          some (.cells (rep cs c.toNat) e,λid=>.slice (some ⟨id,0,none⟩) l.toNat c.toNat)else none
       |none=>none)
     |none=>none)
   |_,_,_=>none)
 | .makeMap t r=>(match r with
   |none=>some (.map [] 0,λid=>.map (some id))
   | some x=>(match und E t,ρ x with
     |some (.map _ _),some (.int _ _)=>some (.map [] 0,λid=>.map (some id))
     |_,_=>none))
 |_=>none
theorem ji{c:Lh}(h:VRs σ' c c'):OR P σ' (some (.cells ⟨c'⟩ e)) 0 0 (.cells c e):=by refine⟨⟨c'⟩,0,0,rfl,λi _ h=>by omega,λi v a=>?_,by simp,rfl⟩;obtain⟨v',g,f⟩:=h.get a;exact⟨v',by simpa using g,f⟩
theorem nu(I:E.Ok)(C:OpR σ ρ ρ'){ob:AObj}{fv:Nat->Value}(h:bT E ρ o.op=some (ob,fv)):
 ∃ (O:Obj) (V:Nat->Value),(∀w:World,(execOp ρ' o).run E.P w=.ok (.value (V w.heap.size)) {w with heap:=w.heap.push O})/\
   (∀σ':Sig,σ.sub σ'->OR E.P σ' (some O) 0 0 ob)/\(∀(σ':Sig) (id b c:Nat),σ' id=some (b,0,c)->VR σ' (fv id) (V b))/\ob.own=true:=by
 unfold bT at h;unfold execOp;split at h;rename_i e f;rw[f];split at h;rename_i i hi;split at h;rename_i z Q;cases H:z.cells.toList.all scal;simp only[H]at h;simp at h;simp only[H,C',osI,Hs]at h;obtain⟨rfl,rfl⟩:=h;refine⟨.cells z.cells e,λb=>.pointer (some ⟨b,0,none⟩),λw=>?_,fun σ' _=>?_,fun σ' id b c h=>?_,rfl⟩;simp[Instr.alloc,fK I hi Q,newVar,newRow];exact ji (bt H σ');have:=VR.ptr (σ:=σ') 0 h;simpa using this;cases h;cases h;rename_i e x f;rw[f];split at h;rename_i v hv;cases h;refine⟨.cells (ρ' x).cells e,λb=>.pointer (some ⟨b,0,none⟩),λw=>?_,fun σ' H=>?_,fun σ' id b c h=>?_,rfl⟩;simp[Instr.box,newVar,newRow];exact ji ((C x v hv).mono H).cells;have:=VR.ptr (σ:=σ') 0 h;simpa using this;cases h;rename_i t a q f;rw[f];split at h;rename_i e ps R Z;split at h;rename_i s u;split at h;rename_i z Q;simp only at h;cases K:(z.cells.toList.all scal&&(Nat.beq z.cells.toList.length s.size&&(Nat.blt 0 s.size&&Nat.ble (a*s.size) 16777216)));rw[K]at h;simp at h;rw[K]at h;simp only[C']at h;simp only[f',HA,blt_eq,HL]at K;obtain⟨h1,N,h3,h4⟩:=K;have N:z.cells.size=s.size:=by simp_all
 split at h;rename_i r hr;cases h;have hp:PRs σ ps (q.map λp=>(p.1,ρ' p.2)).toList:=by rw[Jj];exact mg C Z
 obtain⟨r',g1,g2⟩:=mX hp (bt (jV h1 a) σ) hr;have D:=gG z.cells a (.inl (by omega));rw[N]at D;refine⟨.cells ⟨r'⟩ e,λb=>.slice (some ⟨b,0,none⟩) a a,λw=>?_,fun σ' H=>?_,fun σ' id b c h=>?_,rfl⟩;have Y:¬ (a*s.size>2 ^ 24):=by simp;omega
 simp only[HB,Instr.buildSlice,aj I R,Hv,aH I u,Sem.run_ite];rw[Hm Y];have S:(q.map λ(x:Nat×Operand)=>match x with|(i,x)=>(i,ρ' x))=(q.map λp=>(p.1,ρ' p.2)):=rfl;by_cases M:a*s.size=0;have U:a=0:=by grind [Nat.mul_eq_zero]
 subst U;have e0:(Array.range 0).map (λi=>(#[]:Array Value)[i%(#[]:Array Value).size]!)=⟨[]⟩:=by apply H9.1;simp
 simp only[rep]at g1;simp only[Nat.zero_mul,Jt,Ih,Hv,S,e0,g1];simp[newRow];simp only[M,I2,HB,fK I u Q,Hv,Ih,N,D,S,g1];simp[newRow];exact ji (g2.mono H);have:=VR.slice (σ:=σ') 0 a a h (by have:a<=a*s.size:=Nat.le_mul_of_pos_right _ h3;simp[unk];omega);simpa using this;cases h;cases h;cases h;cases h;rename_i t l c f;rw[f];split at h;rename_i e k1 J k2 g R U hc;split at h;rename_i s u;split at h;rename_i z Q;simp only at h;cases K:(z.cells.toList.all scal&&(Nat.beq z.cells.toList.length s.size&&(Nat.blt 0 s.size&&(decide (0<=J)&&(decide (J<=g)&&(decide (g<=281474976710656)&&Nat.ble (s.bytes*g.toNat) 281474976710656))))));rw[K]at h;simp at h;rw[K]at h;simp only[C',osI,Hs]at h;obtain⟨rfl,rfl⟩:=h;simp only[f',HA,blt_eq,HL]at K;obtain⟨h1,N,h3,h4,h5,h6,h7⟩:=K;have N:z.cells.size=s.size:=by simp_all
 have el:ρ' l=.int k1 J:=by have:=C l _ U;generalize ρ' l=x at this;cases this;rfl
 have ec:ρ' c=.int k2 g:=by have:=C c _ hc;generalize ρ' c=x at this;cases this;rfl
 have D:=gG z.cells g.toNat (.inl (by omega));rw[N]at D;have wl:IntKind.i64.wrap J=J:=cO (by simp[fR];omega);have wc:IntKind.i64.wrap g=g:=cO (by simp[fR];omega);refine⟨.cells ⟨rep z.cells.toList g.toNat⟩ e,λb=>.slice (some ⟨b,0,none⟩) J.toNat g.toNat,λw=>?_,fun σ' H=>?_,fun σ' id b c h=>?_,rfl⟩;have t1:¬ (g<0):=by omega
 have a1:(s.bytes:Int)*g<=281474976710656:=by grind
 have a0:(2:Int) ^ 48=281474976710656:=by decide
 have t2:¬ ((s.bytes:Int)*g>2 ^ 48):=by rw[a0];omega
 have t3:¬ (J<0):=by omega
 have t4:¬ (J>g):=by omega
 simp only[el,ec,HB,Instr.makeSlice,aj I R,Hv,asInt,asIntOf,Ih,uW I u,wl,wc,t1,t2,t3,t4,IV,Bool.or_false,IR,I2,run_askRoom,aH I u];by_cases M:g.toNat*s.size=0;have U:g.toNat=0:=by grind [Nat.mul_eq_zero]
 have e0:(Array.range 0).map (λi=>(#[]:Array Value)[i%(#[]:Array Value).size]!)=⟨[]⟩:=by apply H9.1;simp
 simp only[U,Nat.zero_mul,Jt,Ih,Hv,rep,e0];have e1:(Array.range 0).map (λ_=>(default:Value))=(⟨[]⟩:Array Value):=by apply H9.1;simp
 simp[newRow,e1];simp only[M,I2,fK I u Q,HB,Hv,Ih,N,D];simp[newRow];exact ji (bt (jV h1 _) σ');have:=VR.slice (σ:=σ') 0 J.toNat g.toNat h (by simp[unk];omega);simpa using this;cases h;cases h;cases h;rename_i t r f;rw[f];have X:∀ σ':Sig,OR E.P σ' (some (.map #[] 0)) 0 0 (.map [] 0):=fun σ'=>⟨#[],rfl,.nil⟩;split at h;cases h;refine⟨.map #[] 0,λb=>.map (some b),λw=>?_,fun σ' H=>X σ',fun σ' id b c h=>.map h,rfl⟩;simp[Instr.makeMap];rename_i x;split at h;rename_i kt et k n R hx;cases h;have ex:ρ' x=.int k n:=by have:=C x _ hx;generalize ρ' x=y at this;cases this;rfl
 refine⟨.map #[] 0,λb=>.map (some b),λw=>?_,fun σ' H=>X σ',fun σ' id b c h=>.map h,rfl⟩;simp[Instr.makeMap,ex,aj I R,asInt,asIntOf];cases h;cases h
theorem _root_.Go.Ix:type_of% @List.size_toArray:=@List.size_toArray
abbrev _root_.Go.Im:=@List.append_assoc
theorem _root_.Go.IM:type_of% @List.take_append_of_le_length:=@List.take_append_of_le_length
theorem _root_.Go.JF:type_of% @List.take_append_drop:=@List.take_append_drop
theorem _root_.Go.Hu:type_of% @List.append_nil:=@List.append_nil
theorem _root_.Go.Iz:type_of% @List.mem_or_eq_of_mem_set:=@List.mem_or_eq_of_mem_set
theorem _root_.Go.Ke:type_of% @List.set_append_left:=@List.set_append_left
theorem _root_.Go.HV:type_of% @List.all_eq_true:=@List.all_eq_true
theorem _root_.Go.Hn:type_of% @List.mem_map:=@List.mem_map
def FU:Nat:=40
def fL(A:AH)(B o:Nat)(vs:Lh):Option AH:=
 match A.t.get B with
 | some (.cells c e)=>
   bif vs.all cellv&&(Nat.blt 0 vs.length&&Nat.ble (o+vs.length) c.length)then(match T.set FU A.t B (.cells (over c o vs) e)with|some t=>some ⟨t,A.next⟩|none=>none)else none
 |_=>none
theorem qX(R:Rel P σ A w){o:Nat}(s:VRs σ vs vs')(h:fL A B o vs=some A')(g:σ B=some (b,d,c)):
 ∃w',(storeCells ⟨b,d+o,none⟩ vs').run P w=.ok () w'/\Rel P σ A' w'/\Ext σ A w σ A' w':=by
 unfold fL at h;split at h;rename_i C e z;cases r:(vs.all cellv&&(Nat.blt 0 vs.length&&Nat.ble (o+vs.length) C.length));rw[r]at h;simp at h;rw[r]at h;simp only[C']at h;simp only[f',HA,blt_eq,HL]at r;obtain⟨h1,h2,Z⟩:=r;split at h;rename_i t I;cases h;obtain⟨b',d',c',f,q,lo,K,g1,M,g3,g4,g5⟩:=R.obj B _ z rfl;rw[g]at f;cases f;have J:=s.length;have u:d+o+vs'.length<=q.size:=by
  have k:o+vs.length-1<C.length:=by omega
  obtain⟨v',e1,_⟩:=g3 (o+vs.length-1) C[o+vs.length-1] (by simp[k]);grind
 obtain⟨w',U,H,D,S,Q,O,N,r8⟩:=cP (P:=P) vs' 0 w b (d+o) q e lo K g1 (by omega) M (s.cellv h1);refine⟨w',U,?_,Ext.upd z rfl g I H D Q O N⟩;refine R.upd z rfl g I rfl H D ?_;rw[S];have l:d+o+vs'.length<=q.toList.length:=by simpa using u
 refine⟨_,lo,K,rfl,λi Y=>M i (by grind [Ix,bn]),λi v a=>?_,?_,g5⟩;rw[bZ Z]at a;have p:(over q.toList (d+o+0) vs').toArray[d+i]? =(over q.toList (d+o) vs')[d+i]?:=by simp
 rw[p,bZ l];by_cases X:i<o;grind;rw[Hm X]at a;rw[Hm (by omega)];by_cases V:i<o+vs.length;rw[Ht V]at a;rw[Ht (by omega)];obtain⟨v',e1,e2⟩:=s.get a;grind;grind;grind [Ix,bn];cases h;cases h
theorem rb{a u r:Lh}(h:j+vs.length<=u.length):over (a++u++r) (a.length+j) vs=a++over u j vs++r:=by
 unfold over;have g:(a++u++r).take (a.length+j)=a++u.take j:=by rw[Im,List.take_length_add_append,IM (by omega)]
 have f:(a++u++r).drop (a.length+j+vs.length)=u.drop (j+vs.length)++r:=by rw[Im,In,List.drop_length_add_append,List.drop_append_of_le_length h]
 rw[g,f];simp[Im]
theorem ug{u a:Value}(h:∀ x∈els,x.cells.size=sz)(f:els[i]? =some u)(s:j+vs.length<=sz)(l:a.cells.toList=over u.cells.toList j vs):
 ap (els.set i a)=over (ap els) (i*sz+j) vs:=by
 have z:i<els.length:=(Hx.1 f).1;have k:els[i]=u:=(Hx.1 f).2;have g:u.cells.toList.length=sz:=by simpa using h u (HR f)
 have q:els=els.take i++u::els.drop (i+1):=by grind [H7,JF]
 have p:els.set i a=els.take i++a::els.drop (i+1):=by grind
 have r:(ap (els.take i)).length=i*sz:=by grind [aE,IJ,Nat.min_eq_left]
 rw[p,bv,aU,l,<-Im];have C:ap els=ap (els.take i)++u.cells.toList++ap (els.drop (i+1)):=by
  conv=>lhs;rw[q]
  rw[bv,aU,Im]
 grind [rb]
theorem wK(R:Rel P σ A w){f off:Nat}{els2:Lh}{t:T AObj}(z:A.t.get B=some (.gro els tl e))(g:σ B=some (b,d,c))(s:VRs σ vs vs')(C:vs.all cellv=true)
 (l:off+vs.length<=(ap (els++tl)).length) (he:ap els2=over (ap (els++tl)) off vs) (u:∀ x∈els2,x.cells.size=P.cellsOf e) (p:els2.length=(els++tl).length) (I:T.set f A.t B (.gro els2 [] e)=some t):
 ∃w',(storeCells ⟨b,d+off,none⟩ vs').run P w=.ok () w'/\Rel P σ ⟨t,A.next⟩ w'/\Ext σ A w σ ⟨t,A.next⟩ w':=by
 obtain⟨r,lo,K,g1,N,g3,g4,g5,M⟩:=R.at z rfl g;have hl:=s.length;have a0:=aE g4;have J:(els++tl).length*P.cellsOf e<=c*P.cellsOf e:=H5 _ M;have h:d+off+vs'.length<=r.size:=by omega
 obtain⟨w',V,H,D,U,S,Q,O,r8⟩:=cP (P:=P) vs' 0 w b (d+off) r e lo K g1 (by omega) N (s.cellv C);refine⟨w',V,?_,Ext.upd z rfl g I H D S Q O⟩;refine R.upd z rfl g I rfl H D ?_;rw[U];have k:d+off+vs'.length<=r.toList.length:=by simpa using h
 refine⟨_,lo,K,rfl,λi Z=>N i (by grind [Ix,bn]),λi v a=>?_,by rw[Hu];exact u,?_,by rw[Hu,p];exact M⟩;rw[Hu,he,bZ l]at a;have q:(over r.toList (d+off+0) vs').toArray[d+i]? =(over r.toList (d+off) vs')[d+i]?:=by simp
 rw[q,bZ k];by_cases Y:i<off;grind;rw[Hm Y]at a;rw[Hm (by omega)];by_cases X:i<off+vs.length;rw[Ht X]at a;rw[Ht (by omega)];obtain⟨v',e1,e2⟩:=s.get a;grind;grind;grind [Ix,bn]
def nJ(u v:Value)(a j:Nat):Value:=bif Nat.beq v.cells.toList.length a then v else .agg ⟨over u.cells.toList j v.cells.toList⟩
theorem pk{u:Value}(g:u.cells.size=sz)(k:j+v.cells.toList.length<=sz):(nJ u v sz j).cells.toList=over u.cells.toList j v.cells.toList:=by
 have f:u.cells.toList.length=sz:=by simpa using g
 unfold nJ;cases a:Nat.beq v.cells.toList.length sz with
 | true=>
  have a:=Ho a;have h:j=0:=by omega
  subst h;simp only[C'];unfold over;grind
 |false=>rfl
def eE(E:Env)(A:AH)(t:TypeId)(B sz i j:Nat)(v:Value):Option AH:=
 match E.ti t,A.t.get B with
 | some ti,some (.gro els tl e)=>(match E.ti e,nth (glue els tl) i with
   | some ie,some u=>bif (Nat.beq ie.size sz&&Nat.beq v.cells.toList.length ti.size)&&(v.cells.toList.all cellv&&Nat.ble (j+v.cells.toList.length) sz)then
    (match T.set FU A.t B (.gro ((glue els tl).set i (nJ u v sz j)) [] e)with|some t=>some ⟨t,A.next⟩|none=>none)else none
   |_,_=>none)
 |_,_=>none
theorem pU(M:E.Ok)(R:Rel E.P σ A w)(a:σ B=some (b,d,c))(O:VR σ v v')(h:eE E A t B sz i j v=some A'):
 ∃w',(Instr.storeAt t (.pointer (some ⟨b,d+i*sz+j,none⟩)) v').run E.P w=.ok () w'/\Rel E.P σ A' w'/\Ext σ A w σ A' w':=by
 unfold eE at h;split at h;rename_i J els tl e z S;rw[bW]at h;split at h
 · rename_i l u H p;rw[aP]at p;cases q:((Nat.beq l.size sz&&Nat.beq v.cells.toList.length J.size)&&(v.cells.toList.all cellv&&Nat.ble (j+v.cells.toList.length) sz))with
   |false=>rw[q]at h;simp at h
   |true=>
   rw[q]at h;simp only[C']at h;simp only[f',HA,Hy]at q;obtain⟨⟨rfl,Z⟩,I,Q⟩:=q;split at h
   · rename_i t2 X;cases h;have k:E.P.cellsOf e=l.size:=by simp[Program.cellsOf,M.ti _ _ H]
     obtain⟨ca,lo,hi,g1,g2,g3,r,g5,g6⟩:=R.at S rfl a;rw[k]at r;have s:=r u (HR p);have D:i<(els++tl).length:=(Hx.1 p).1;have C:=pk s Q;have f:=ug r p Q C;have a0:=aE r;have g:(i+1)*l.size<=(els++tl).length*l.size:=H5 _ D;rw[JT]at g;obtain⟨w',K,V,U⟩:=wK R S a O.cells I (by omega) f (λx N=>by rw[k];rcases Iz N with N|rfl;all_goals grind [nJ,bn]) (by simp) X
     refine⟨w',?_,V,U⟩;have hl:=O.cells.length;have Y:v'.cells.size=J.size:=by simp at hl Z;omega
     rw[<-In]at K;simp[Instr.storeAt,Instr.sureAddr,storeVar,aH M z,Y,K]
   cases h
 cases h;cases h
theorem x7(R:Rel P σ A w){f off:Nat}{rest els2 a:Lh}{t:T AObj}(C:A.t.get B=some (.arr els rest n e))(h:σ B=some (b,d,c))(z:VRs σ vs vs')(D:vs.all cellv=true)
 (h0:0<vs.length) (q:off+vs.length<=(els++rest).length) (Z:els2++a=over (els++rest) off vs) (r:els2.length=n) (J:T.set f A.t B (.arr els2 a n e)=some t):
 ∃w',(storeCells ⟨b,d+off,none⟩ vs').run P w=.ok () w'/\Rel P σ ⟨t,A.next⟩ w'/\Ext σ A w σ ⟨t,A.next⟩ w':=by
 obtain⟨⟨u,lo,K,g1,M,g3,g4,g5⟩,g6⟩:=R.at C rfl h;have hl:=z.length;have l:d+off+vs'.length<=u.size:=by
  have k:off+vs.length-1<(els++rest).length:=by omega
  obtain⟨v',e1,_⟩:=g3 (off+vs.length-1) (els++rest)[off+vs.length-1] (Hr k);grind
 obtain⟨w',U,I,H,S,Q,O,N,r8⟩:=cP (P:=P) vs' 0 w b (d+off) u e lo K g1 (by omega) M (z.cellv D);refine⟨w',U,?_,Ext.upd C rfl h J I H Q O N⟩;refine R.upd C rfl h J rfl I H ?_;rw[S];have p:d+off+vs'.length<=u.toList.length:=by simpa using l
 refine⟨⟨_,lo,K,rfl,λi Y=>M i (by grind [Ix,bn]),λi v g=>?_,by grind [Ix,bn],g5⟩,r⟩;rw[Z,bZ q]at g;have s:(over u.toList (d+off+0) vs').toArray[d+i]? =(over u.toList (d+off) vs')[d+i]?:=by simp
 rw[s,bZ p];by_cases X:i<off;grind;rw[Hm X]at g;rw[Hm (by omega)];by_cases V:i<off+vs.length;rw[Ht V]at g;rw[Ht (by omega)];obtain⟨v',e1,e2⟩:=z.get g;grind;grind
def jt (E:Env)(A:AH)(t:TypeId)(a v:Value):Option AH:=
 match a with
 | .pointer (some ⟨B,o,none⟩)=>(match A.t.get B with
   | some (.arr els rest n e)=>(match E.ti t with
     | some ti=>(match Nat.ble n o with
       | true=>bif (Nat.beq v.cells.toList.length ti.size&&v.cells.toList.all cellv)&&(Nat.blt 0 v.cells.toList.length&&Nat.ble (o-n+v.cells.toList.length) rest.length)then
        (match T.set FU A.t B (.arr els (over rest (o-n) v.cells.toList) n e)with|some t=>some ⟨t,A.next⟩|none=>none)else none
       | false=>bif (Nat.beq v.cells.toList.length ti.size&&v.cells.toList.all cellv)&&(Nat.beq o 0&&Nat.beq v.cells.toList.length n)then
        (match T.set FU A.t B (.arr v.cells.toList rest n e)with|some t=>some ⟨t,A.next⟩|none=>none)else none)
     |none=>none)
   |_=>none)
 | .func (.yield sz) ⟨[.pointer (some ⟨B,0,none⟩)]⟩ ⟨[.int .i64 i,.int .i64 j,.bool true]⟩=>(match A.t.get B with
   | some (.arr els rest n e)=>(match E.ti t,v.cells.toList with
     | some ti,[x]=>bif (Nat.beq sz 1&&Nat.beq j.toNat 0)&&((Nat.beq ti.size 1&&cellv x)&&Nat.blt i.toNat n)then
      (match T.set FU A.t B (.arr (els.set i.toNat x) rest n e)with|some t=>some ⟨t,A.next⟩|none=>none)else none
     |_,_=>none)
   | some (.cells c e)=>(match E.ti t with
     |some ti=>bif (Nat.beq sz 1&&Nat.beq j.toNat 0)&&(Nat.beq ti.size 1&&Nat.beq v.cells.toList.length 1)then fL A B i.toNat v.cells.toList else none
     |none=>none)
   |_=>none)
 |_=>none
theorem yT{c:Lh}(h:i<c.length):over c i [x]=c.set i x:=by unfold over;rw[List.set_eq_take_append_cons_drop,Ht h];simp
theorem qw(Z:E.Ok)(R:Rel E.P σ A w){a:Value}(ha:VR σ a a')(X:VR σ v v')(h:jt E A t a v=some A'):
 ∃w',(Instr.storeAt t a' v').run E.P w=.ok () w'/\Rel E.P σ A' w'/\Ext σ A w σ A' w':=by
 have C:=X.cells.length;unfold jt at h;split at h;rename_i B o;cases ha with
 | @ptr _ b d c o' hσ=>
  split at h;rename_i els g n e K;have D:=R.at K rfl hσ;obtain⟨_,s⟩:=id D;split at h;rename_i z p
  have V:∀ {l k:Lh}{Y:AH},((Nat.beq v.cells.toList.length z.size&&v.cells.toList.all cellv)=true)->0<v.cells.toList.length->o+v.cells.toList.length<=(els++g).length->l++k=over (els++g) o v.cells.toList->l.length=n->
   (match T.set FU A.t B (.arr l k n e)with|some t=>some (⟨t,A.next⟩:AH)|none=>none)=some Y->∃ w',(Instr.storeAt t (.pointer (some ⟨b,d+o,none⟩)) v').run E.P w=.ok () w'/\Rel E.P σ Y w'/\Ext σ A w σ Y w':=by
   intro l k Y h1 h0 h2 h3 h4 h5
   split at h5
   · rename_i t2 ht
     cases h5
     simp only[f',Hy]at h1
     obtain⟨w',O,N,M⟩:=x7 R K hσ X.cells h1.2 h0 h2 h3 h4 ht
     refine⟨w',?_,N,M⟩
     have U:v'.cells.size=z.size:=by simp at C h1;omega
     simp[Instr.storeAt,Instr.sureAddr,storeVar,aH Z p,U,O]
   · cases h5
  split at h;rename_i H;rw[HA]at H;cases f:(Nat.beq v.cells.toList.length z.size&&v.cells.toList.all cellv)&&(Nat.blt 0 v.cells.toList.length&&Nat.ble (o-n+v.cells.toList.length) g.length);rw[f]at h;simp at h;rw[f]at h;simp only[C']at h;rw[f',f' (a:=Nat.blt _ _),HA,Iv]at f;obtain⟨J,a2,I⟩:=f;have:=V J a2 (by rw[E'];omega) (by have:=rb (a:=els) (u:=g) (r:=[]) (vs:=v.cells.toList) (j:=o-n) I;grind) s h
  exact this;rename_i H;cases f:(Nat.beq v.cells.toList.length z.size&&v.cells.toList.all cellv)&&(Nat.beq o 0&&Nat.beq v.cells.toList.length n);rw[f]at h;simp at h;rw[f]at h;simp only[C']at h;rw[f',f' (a:=Nat.beq o 0),Hy,Hy]at f;obtain⟨J,rfl,I⟩:=f;have a3:0<n:=by rcases Nat.eq_zero_or_pos n with q|q;subst q;simp at H;exact q
  have:=V J (by omega) (by rw[E'];omega) (by unfold over;grind) I h
  exact this;cases h;cases h
 rename_i sz B i j;cases ha with
 |func fn hf=>simp[Fn.still]at hf
 | @gp _ b d c _ i j hσ=>
  simp only[D']at h;split at h;rename_i els g n e K;have D:=R.at K rfl hσ;obtain⟨_,s⟩:=id D;split at h;rename_i z x p hx;cases f:(Nat.beq sz 1&&Nat.beq j 0)&&((Nat.beq z.size 1&&cellv x)&&Nat.blt i n);rw[f]at h;simp at h;rw[f]at h;simp only[C']at h;simp only[f',Hy,Iv]at f;obtain⟨⟨rfl,rfl⟩,⟨S,a1⟩,a4⟩:=f;split at h;rename_i t2 ht;cases h;have Q:=X.cells;rw[hx]at Q C;obtain⟨w',O,N,M⟩:=x7 R K hσ Q (by simp[a1]) (by simp) (off:=i) (by rw[E'];simp;omega) (by grind [yT,E',Ke]) (by simpa using s) ht
  refine⟨w',?_,N,M⟩;have U:v'.cells.size=z.size:=by simp at C;omega
  have e0:d+i*1+0=d+i:=by omega
  rw[e0];simp[Instr.storeAt,Instr.sureAddr,storeVar,aH Z p,U,O];cases h;cases h;rename_i cs e K;split at h;rename_i z p;cases f:(Nat.beq sz 1&&Nat.beq j 0)&&(Nat.beq z.size 1&&Nat.beq v.cells.toList.length 1);rw[f]at h;simp at h;rw[f]at h;simp only[C']at h;simp only[f',Hy]at f;obtain⟨⟨rfl,rfl⟩,S,a0⟩:=f;obtain⟨w',O,N,M⟩:=qX R X.cells h hσ;refine⟨w',?_,N,M⟩;have U:v'.cells.size=z.size:=by simp at C a0;omega
  have e0:d+i*1+0=d+i:=by omega
  rw[e0];simp[Instr.storeAt,Instr.sureAddr,storeVar,aH Z p,U,O];cases h;cases h
 cases h
def jK(E:Env)(A:AH)(t:TypeId)(a v:Value):Option AH:=
 match a with
 | .pointer (some ⟨B,o,none⟩)=>(match E.ti t with
   |some i=>let vs:=v.cells.toList;bif Nat.beq vs.length i.size then fL A B o vs else none
   |none=>none)
 | .func (.yield sz) ⟨[.pointer (some ⟨B,0,none⟩)]⟩ ⟨[.int .i64 i,.int .i64 j,.bool true]⟩=>eE E A t B sz i.toNat j.toNat v
 |_=>none
theorem uL(s:E.Ok)(R:Rel E.P σ A w){a:Value}(l:VR σ a a')(k:VR σ v v')(h:jK E A t a v=some A'):
 ∃w',(Instr.storeAt t a' v').run E.P w=.ok () w'/\Rel E.P σ A' w'/\Ext σ A w σ A' w':=by
 unfold jK at h;split at h;rename_i B o;cases l with
 | ptr H f=>
  rename_i b d c;split at h;rename_i i C;simp only at h;cases g:Nat.beq v.cells.toList.length i.size;rw[g]at h;simp at h;rw[g]at h;simp only[C']at h;have g:=Ho g;obtain⟨w',r,q,p⟩:=qX R k.cells h f;refine⟨w',?_,q,p⟩;have z:=k.cells.length;have u:v'.cells.size=i.size:=by simp at z g;omega
  simp[Instr.storeAt,Instr.sureAddr,storeVar,aH s C,u,r];cases h
 rename_i sz B i j;cases l with
 |func I D=>simp[Fn.still]at D
 | @gp _ b d c _ i j f=>grind [D',pU]
 cases h
def iN(E:Env)(A:AH)(t:TypeId)(a v:Value):Option AH:=match jK E A t a v with|some r=>some r|none=>jt E A t a v
theorem yy(f:E.Ok)(R:Rel E.P σ A w){a:Value}(k:VR σ a a')(g:VR σ v v')(h:iN E A t a v=some A'):
 ∃w',(Instr.storeAt t a' v').run E.P w=.ok () w'/\Rel E.P σ A' w'/\Ext σ A w σ A' w':=by grind [iN,osI,uL,qw]
def srcA(A:AH)(size:Nat)(x:Value):Option (Nat×Lh):=
 match x with
 | .slice none n k=>bif Nat.beq n 0 then some (0,[])else none
 | .slice (some ⟨B,o,none⟩) n k=>bif Nat.beq n 0 then some (0,[])else(match gr A B o (n*size)with
   |some l=>bif l.all cellv then some (n,l)else none
   |none=>none)
 | .string s=>bif Nat.beq size 1 then some (s.size,s.data.toList.map λb=>.int .u8 b.toNat)else none
 |_=>none
theorem dn{o:Nat}{l:Lh}(h:gr A B o n=some l):l.length=n:=by unfold gr at h;split at h;simp only at h;rename_i c f;cases a:Nat.beq ((c.drop o).take n).length n;rw[a]at h;simp at h;rw[a]at h;simp_all;cases h
theorem AG(R:Rel P σ A w){size:Nat}(q:VR σ x x')(h:srcA A size x=some (n,news)){M:TypeId}
 (z:(∃e',P.underlying M=some (.slice e'))∨P.underlying M=some .string):∃ p,VRs σ news p/\Src P size M x' n p w/\news.length=n*size/\news.all cellv=true:=by
 unfold srcA at h;split at h;rename_i K k;cases g:Nat.beq K 0;rw[g]at h;simp at h;rw[g]at h;simp only[C',osI,Hs]at h;obtain⟨rfl,rfl⟩:=h;obtain rfl:=Ho g;cases q;exact⟨[],.nil,⟨z,λ_=>rfl,rfl,rfl,by simp,by simp⟩,by simp,rfl⟩;rename_i B o K k;cases g:Nat.beq K 0 with
 | true=>
  rw[g]at h;simp only[C',osI,Hs]at h;obtain⟨rfl,rfl⟩:=h;obtain rfl:=Ho g;have r:∃ a' D,x'=.slice a' 0 D:=by cases q<;>exact⟨_,_,rfl⟩
  obtain⟨a',D,rfl⟩:=r;cases a' with
  |none=>exact⟨[],.nil,⟨z,λ_=>rfl,rfl,rfl,by simp,by simp⟩,by simp,rfl⟩
  |some a'=>exact⟨[],.nil,⟨z,λ_=>rfl,by simp[Builtin.firstCells,loadCells,loadCellsFrom],by simp[Builtin.firstCells,loadCells,loadCellsFrom],by simp,by simp⟩,by simp,rfl⟩
 | false=>
  rw[g]at h;simp only[HJ]at h;have H:=aZ g;split at h;rename_i l Q;cases I:l.all cellv;rw[I]at h;simp at h;rw[I]at h;simp only[C',osI,Hs]at h;obtain⟨rfl,rfl⟩:=h;have r:∃ b d c D,σ B=some (b,d,c)/\x'=.slice (some ⟨b,d+o,none⟩) K D:=by
   cases q with
   |slice X N O f z=>exact⟨_,_,_,_,f,rfl⟩
   |sliceU N f Z=>exact⟨_,_,_,_,f,rfl⟩
   |sliceV X N O f Z=>exact⟨_,_,_,_,f,rfl⟩
   |sliceE a a' O=>exact absurd rfl H
   |gs0=>exact absurd rfl H
   |gs lo o' N O m f z I ho hm=>exact⟨_,_,_,_,f,rfl⟩
  obtain⟨b,d,c,D,f,rfl⟩:=r;obtain⟨V,S,U⟩:=cW R Q f;exact⟨V,S,⟨z,λ_=>rfl,U w rfl,U w.drew rfl,by rw[S.length,dn Q],S.cellv I⟩,dn Q,I⟩;cases h
 rename_i s;cases g:Nat.beq size 1;rw[g]at h;simp at h;rw[g]at h;simp only[C',osI,Hs]at h;obtain⟨rfl,rfl⟩:=h;obtain rfl:=Ho g;cases q;have J:(s.data.toList.map λb=>Value.int .u8 b.toNat).all scal=true:=by rw[HV];intro x q;obtain⟨_,_,rfl⟩:=Hn.1 q;rfl
 have C:(s.data.toList.map λb=>Value.int .u8 b.toNat).all cellv=true:=by rw[HV];intro x q;obtain⟨_,_,rfl⟩:=Hn.1 q;rfl
 refine⟨_,bt J σ,⟨z,λ_=>rfl,firstCells_string s w,firstCells_string s w.drew,?_,?_⟩,?_,C⟩;simp_all;intro u Y;obtain⟨_,_,rfl⟩:=Hn.1 Y;rfl;simp_all;cases h
theorem _root_.Go.JD:type_of% @Option.getD_some:=@Option.getD_some
abbrev _root_.Go.Kf:=@Nat.le_of_eq
def cL(A:AH)(o:AObj):Option AH:=
 match T.set FU A.t A.next o with|some t=>some ⟨t,A.next+1⟩|none=>none
def cI:TypeDesc->Bool
 | .slice _| .string=>true
 |_=>false
def eM (E : Env) (A:AH)(ts:List TypeId)(s x:Value):Option (Value×AH):=
 match ts with
 | [t, tx] => (match und E t,und E tx with
   | some (.slice e),some dx=>(match E.ti e with
     | some ie => (match ie.zero,srcA A ie.size x with
       | some z, some (n,news)=>
         bif cI dx&&(Nat.beq z.cells.toList.length ie.size&&Nat.blt 0 ie.size)then
         (match s with
         | .slice none sl sk=>
           bif Nat.beq sl 0&&Nat.beq sk 0 then
            bif Nat.beq n 0 then some (s,A)
            else bif Nat.ble n 70368744177664&&Nat.ble (n*ie.bytes) 140737488355328 then
             (match cL A (.cells news e)with|some A'=>some (.slice (some ⟨A.next,0,none⟩) n unk,A')|none=>none)else none
           else none
         | .slice (some ⟨B,o,none⟩) sl sk=>
           bif Nat.beq n 0 then bif Nat.ble unk sk||Nat.ble sl sk then some (s,A)else none
           else bif Nat.ble (sl+n) 70368744177664&&Nat.ble ((sl+n)*ie.bytes) 140737488355328 then
            bif Nat.blt sk unk then
             bif Nat.ble (sl+n) sk then(match fL A B (o+sl*ie.size) news with|some A'=>some (.slice (some ⟨B,o,none⟩) (sl+n) sk,A')|none=>none)
             else(match(bif Nat.beq sl 0 then some []else gr A B o (sl*ie.size))with
              |some olds=>(match cL A (.cells (olds++news) e)with|some A'=>some (.slice (some ⟨A.next,0,none⟩) (sl+n) unk,A')|none=>none)
              |none=>none)
            else bif Nat.beq sk unk then
             (match A.t.get B with
             | some (.cells c eb)=>bif Nat.beq eb e&&Nat.ble (sl*ie.size) c.length then
               (match T.set FU A.t B .dead with
               | some t'=>(match T.set FU t' A.next (.cells (c.take (sl*ie.size)++news) e)with
                 |some t''=>some (.slice (some ⟨A.next,0,none⟩) (sl+n) unk,⟨t'',A.next+1⟩)
                 |none=>none)
               |none=>none)else none
             |_=>none)
            else none
           else none
         |_=>none)else none
       |_,_=>none)
     |none=>none)
   |_,_=>none)
 |_=>none
theorem tK{c:Lh}(h:look A B=some c)(a:n<=c.length):gr A B 0 n=some (c.take n):=by unfold gr;simp_all
theorem fV(z:Array Value)(n:Nat):(Builtin.zeroCells z n).size=n*z.size:=by simp[Builtin.zeroCells]
theorem yY{c:Lh}{f:TypeInfo}{z:Value}{cap a:Nat}(q:P.info? e=some f)(k:z.cells.size=f.size)(p:c'.length=a*f.size)(g:a<=cap)(h:VRs σ' c c'):
 OR P σ' (some (.cells (c'.toArray++Builtin.zeroCells z.cells (cap-a)) e)) 0 cap (.cells c e):=by refine⟨_,0,0,rfl,λi _ h=>by omega,λi v l=>?_,?_,rfl⟩;obtain⟨v',s,r⟩:=h.get l;grind;rw[Array.size_append,fV,k,Ix,p];simp only[Program.cellsOf,q,Ik,JD,IW];rw[<-IG];exact Kf (by congr 1;omega)
theorem oW(ok:E.Ok)(R:Rel E.P σ A w){s:Value}(hs:VR σ s s')(hx:VR σ x x')(h:eM E A ts.toList s x=some (v,A')):
    ∃v' w' σ',(Builtin.append_ ts ty #[s',x']).run E.P w=.ok v' w'/\VR σ' v v'/\Rel E.P σ' A' w'/\Ext σ A w σ' A' w':=by
  unfold eM at h;split at h;rename_i t tx e4;obtain rfl:ts= #[t,tx]:=by cases ts;simp_all
  split at h;rename_i e dx hu d5;split at h;rename_i l e0;split at h
  · rename_i z n news hz c3;cases hb:(cI dx&&(Nat.beq z.cells.toList.length l.size&&Nat.blt 0 l.size))with
    |false=>rw[hb]at h;simp at h
    |true=>
    rw[hb]at h;simp only[C']at h;simp only[f',blt_eq,HL]at hb;obtain⟨b1,b2,b3⟩:=hb;have b2:z.cells.size=l.size:=by simp_all
    have O:=cd ok hu;have hi:=ok.ti _ _ e0;have K:(∃e',E.P.underlying tx=some (.slice e'))∨E.P.underlying tx=some .string:=by have:=cd ok d5;cases dx<;>simp[cI]at b1;all_goals grind
    obtain⟨g,q,hS,a2,e3⟩:=AG R hx c3 K
    have V:∀ (N:Option Addr) (sl H:Nat) (D f:Lh) (A0:AH),Rel E.P σ A0 w->A0.next=A.next->
        VRs σ D f->D.length=sl*l.size->(Builtin.firstCells l.size sl (.slice N sl H)).run E.P w.drew=.ok f.toArray w.drew->
        H<sl+n->sl+n<=70368744177664->(sl+n)*l.bytes<=140737488355328->∀ X,T.set FU A0.t A.next (.cells (D++news) e)=some X->
        (∃ I:Nat,sl+n<=I/\∃ w':World,(Builtin.append_ #[t,tx] ty #[.slice N sl H,x']).run E.P w=.ok (.slice (some ⟨w.heap.size,0,none⟩) (sl+n) I) w'/\
          Rel E.P (upd σ A.next (w.heap.size,0,I)) ⟨X,A.next+1⟩ w'/\Ext σ A0 w (upd σ A.next (w.heap.size,0,I)) ⟨X,A.next+1⟩ w'):=by
      intro N sl H D f A0 R0 c6 ho Q c5 d1 e5 f2 X r
      have d4:Builtin.nextslicecap (sl+n) H*l.bytes<=281474976710656:=by
        have h1:=Room.nextslicecap_le' d1
        calc Builtin.nextslicecap (sl+n) H*l.bytes<=2*(sl+n)*l.bytes:=H5 _ h1
          _=2*((sl+n)*l.bytes):=Nat.mul_assoc _ _ _
          _<=281474976710656:=by omega
      have a8:=run_append_grow_src w t tx ty e l z O hi hz N sl H f c5 x' n g hS d1 (by omega) d4
      have c0:=grownCap_ge w (sl+n) H e
      generalize grownCap w (sl+n) H e=I at a8 c0
      refine⟨I,c0,_,a8,?_,?_⟩
      · rw[<-c6]at r ⊢
        refine R0.alloc (ob:=.cells ((f++g).toArray++Builtin.zeroCells z.cells (I-(sl+n))) e) r (R0.fresh _ (Hw _)) (I9 _) (Jb _) ?_ rfl
        refine yY hi b2 ?_ c0 (((ho.mono (ch (R0.fresh _ (Hw _))))).append (q.mono (ch (R0.fresh _ (Hw _)))))
        rw[E',ho.length,Q,q.length,a2,IG]
      · rw[<-c6]at r ⊢
        exact Ext.alloc R0 r (Jb _) (ob:=.cells ((f++g).toArray++Builtin.zeroCells z.cells (I-(sl+n))) e) rfl rfl rfl rfl
    split at h;rename_i sl H;cases hs;cases hb:(Nat.beq sl 0&&Nat.beq H 0);rw[hb]at h;simp at h;rw[hb]at h;simp only[C']at h;simp only[f']at hb;obtain⟨e1,e2⟩:=hb;obtain rfl:=Ho e1;obtain rfl:=Ho e2;cases J:Nat.beq n 0 with
    | true=>
     rw[J]at h;simp only[C',osI,Hs]at h;obtain⟨rfl,rfl⟩:=h;obtain rfl:=Ho J;have S:g=[]:=by have:=q.length;rw[a2]at this;simpa using this
     subst S;exact⟨_,w,σ,run_append_nothing w t tx ty e l O hi none 0 0 (Hw _) x' hS,.slice0 _ _,R,Ext.refl _ _ _⟩
    | false=>
     rw[J]at h;simp only[HJ]at h;have d9:=aZ J;cases u:(Nat.ble n 70368744177664&&Nat.ble (n*l.bytes) 140737488355328);rw[u]at h;simp at h;rw[u]at h;simp only[C',cL]at h;simp only[f',HA]at u;cases r:T.set FU A.t A.next (.cells news e)with
     |none=>simp[r]at h
     |some X=>simp only[r,osI,Hs]at h;obtain⟨rfl,rfl⟩:=h;obtain⟨I,g1,w',g2,g3,g4⟩:=V none 0 0 [] [] A R rfl .nil (by simp) (by simp[Builtin.firstCells]) (by omega) (by omega) (by simpa using u.2) X (by simpa using r);refine⟨_,w',_,g2,?_,g3,g4⟩;simp only[IW]at g1 ⊢;exact .sliceU n bG g1
    rename_i B o sl H;cases J:Nat.beq n 0 with
    | true=>
     rw[J]at h;simp only[C']at h;cases u:(Nat.ble unk H||Nat.ble sl H)with
     |false=>rw[u]at h;simp at h
     |true=>
     rw[u]at h;simp only[C',osI,Hs]at h;obtain⟨rfl,rfl⟩:=h;obtain rfl:=Ho J;have S:g=[]:=by have:=q.length;rw[a2]at this;simpa using this
     subst S;have b5:∃ a' kk,s'=.slice a' sl kk/\sl<=kk:=by
      cases hs with
      |slice i' Y Z k e9=>simp only[Iu,HA]at u;exact⟨_,_,rfl,by omega⟩
      |sliceU Y k J=>exact⟨_,_,rfl,J⟩
      |sliceV i' Y Z k J=>exact⟨_,_,rfl,J⟩
      |sliceE a a' Z=>exact⟨_,_,rfl,Jp _⟩
      |gs0=>exact⟨_,_,rfl,Jp _⟩
      |gs lo o' Y Z m k K hc ho hm=>exact⟨_,_,rfl,K⟩
     obtain⟨a',kk,rfl,b5⟩:=b5;exact⟨_,w,σ,run_append_nothing w t tx ty e l O hi a' sl kk b5 x' hS,hs,R,Ext.refl _ _ _⟩
    | false=>
     rw[J]at h;simp only[HJ]at h;have d9:=aZ J;cases u:(Nat.ble (sl+n) 70368744177664&&Nat.ble ((sl+n)*l.bytes) 140737488355328);rw[u]at h;simp at h;rw[u]at h;simp only[C']at h;simp only[f',HA]at u;have a3:∀ (a':Addr) (kk:Nat),(Builtin.firstCells l.size sl (.slice (some a') sl kk))=loadCells a' (sl*l.size):=λ_ _=>rfl;cases a4:Nat.blt H unk with
     | true=>
      rw[a4]at h;simp only[C']at h;rw[blt_eq,HL]at a4;have U:∃ b d c,σ B=some (b,d,c)/\s'=.slice (some ⟨b,d+o,none⟩) sl H:=by
       cases hs with
       |slice i' Y Z k K=>exact⟨_,_,_,k,rfl⟩
       |sliceU Y k J=>omega
       |sliceV i' Y Z k J=>omega
       |sliceE a a' Z=>omega
       |gs0 B o m a hm=>omega
       |gs lo o' Y Z m k K hc ho hm=>omega
      obtain⟨b,d,c,k,rfl⟩:=U;cases p:Nat.ble (sl+n) H with
      |true=>rw[p]at h;simp only[C']at h;have p:=IF p;split at h;rename_i A2 c4;cases h;obtain⟨w',r1,r2,r3⟩:=qX R q c4 k;refine⟨.slice (some ⟨b,d+o,none⟩) (sl+n) H,w',σ,?_,.slice o (sl+n) H k a4,r2,r3⟩;rw[<-In]at r1;rcases K with⟨e',K⟩|K<;>simp[Builtin.append_,Jh O,Jh K,sizeOf,typeInfo,hi,hS.len,p,hS.cells,aM,r1];cases h
      |false=>
      rw[p]at h;simp only[HJ]at h;have a1:H<sl+n:=by grind [HA]
      split at h;rename_i D C;simp only[cL]at h;cases r:T.set FU A.t A.next (.cells (D++news) e)with
      |none=>simp[r]at h
      | some X=>
       simp only[r,osI,Hs]at h;obtain⟨rfl,rfl⟩:=h;have Q:∃ f,VRs σ D f/\D.length=sl*l.size/\(Builtin.firstCells l.size sl (.slice (some ⟨b,d+o,none⟩) sl H)).run E.P w.drew=.ok f.toArray w.drew:=by
        cases b0:Nat.beq sl 0 with
        |true=>rw[b0]at C;simp only[C',osI]at C;subst C;obtain rfl:=Ho b0;exact⟨[],.nil,by simp,by simp[Builtin.firstCells,loadCells,loadCellsFrom]⟩
        |false=>rw[b0]at C;simp only[HJ]at C;obtain⟨l',g1,g2⟩:=cW R C k;exact⟨l',g1,dn C,g2 w.drew rfl⟩
       obtain⟨f,q1,q2,q3⟩:=Q;obtain⟨I,g1,w',g2,g3,g4⟩:=V (some ⟨b,d+o,none⟩) sl H D f A R rfl q1 q2 q3 a1 u.1 u.2 X r;exact⟨_,w',_,g2,.sliceU (sl+n) bG g1,g3,g4⟩
      cases h
     |false=>
     rw[a4]at h;simp only[HJ]at h;cases b4:Nat.beq H unk;rw[b4]at h;simp at h;rw[b4]at h;simp only[C']at h;obtain rfl:=Ho b4;have U:∃ b d c,σ B=some (b,d,c)/\o=0/\s'=.slice (some ⟨b,d,none⟩) sl c/\sl<=c:=by
      cases hs with
      |slice i' Y Z k K=>omega
      |sliceU Y k J=>exact⟨_,_,_,k,rfl,rfl,J⟩
      |gs0 B o m a hm=>omega
      |gs lo o' Y Z m k K hc ho hm=>omega
     obtain⟨b,d,c,k,rfl,rfl,e6⟩:=U;split at h;rename_i cs eb hg;cases a5:(Nat.beq eb e&&Nat.ble (sl*l.size) cs.length);rw[a5]at h;simp at h;rw[a5]at h;simp only[C']at h;simp only[f',HA]at a5;obtain⟨h3,h4⟩:=a5;obtain rfl:=Ho h3;split at h;rename_i t1 a0;split at h;rename_i X r;cases h;obtain⟨b',d',c',a6,ca,lo,d2,g1,g2,g3,g4,g5⟩:=R.obj B _ hg rfl;rw[k]at a6;cases a6;have c1:E.P.cellsOf eb=l.size:=by simp[Program.cellsOf,hi]
     rw[c1]at g4;by_cases p:sl+n<=c;have d0:(sl+n)*l.size<=c*l.size:=H5 _ p;have a9:g.length=n*l.size:=by rw[q.length,a2]
     have d7:d+sl*l.size+g.length<=ca.size:=by rw[a9];rw[IG]at d0;omega
     obtain⟨w',r1,r2,r3,r4,r5,r6,r7,r8⟩:=cP (P:=E.P) g 0 w b (d+sl*l.size) ca eb lo d2 g1 (by omega) g2 (q.cellv e3);have a7:σ.sub (upd σ A.next (b,d,c)):=ch (R.fresh _ (Hw _));refine⟨.slice (some ⟨b,d,none⟩) (sl+n) c,w',upd σ A.next (b,d,c),?_,.sliceU (sl+n) bG p,?_,Ext.move R hg rfl k a0 r r2 r3 r5 r6 r7⟩;rcases K with⟨e',K⟩|K<;>simp[Builtin.append_,Jh O,Jh K,sizeOf,typeInfo,hi,hS.len,p,hS.cells,aM,r1];refine R.move hg rfl k a0 r rfl r2 r3 ?_;rw[r4];have c2:d+sl*l.size+g.length<=ca.toList.length:=by simpa using d7
     refine⟨_,lo,d2,rfl,λi f1=>g2 i (by grind [Ix,bn]),λi v M=>?_,?_,g5⟩;have d3:(over ca.toList (d+sl*l.size+0) g).toArray[d+i]? =(over ca.toList (d+sl*l.size) g)[d+i]?:=by simp
     rw[d3,bZ c2];rw[Ii]at M;have d6:(cs.take (sl*l.size)).length=sl*l.size:=by simp;omega
     rw[d6]at M;by_cases k1:i<sl*l.size;rw[Ht k1,Io,Ht k1]at M;rw[Ht (by omega)];obtain⟨v',e1,e2⟩:=g3 i v M;exact⟨v',by simpa using e1,e2.mono a7⟩;rw[Hm k1]at M;rw[Hm (by omega)];have f0:i-sl*l.size<news.length:=(Hx.1 M).1;rw[Ht (by rw[a9];omega)];obtain⟨v',e1,e2⟩:=q.get M;have ei:d+i-(d+sl*l.size)=i-sl*l.size:=by omega
     exact⟨v',by rw[ei];exact e1,e2.mono a7⟩;grind [Ix,bn];have Q:∃ f,VRs σ (cs.take (sl*l.size)) f/\(Builtin.firstCells l.size sl (.slice (some ⟨b,d,none⟩) sl c)).run E.P w.drew=.ok f.toArray w.drew:=by have hl:gr A B 0 (sl*l.size)=some (cs.take (sl*l.size)):=tK (by unfold look;rw[hg]) h4;obtain⟨l',q1,q2⟩:=cW R hl k;exact⟨l',q1,by rw[a3];have:=q2 w.drew rfl;simpa using this⟩
     obtain⟨f,q1,q3⟩:=Q;have q2:(cs.take (sl*l.size)).length=sl*l.size:=by simp;omega
     obtain⟨I,k1,w',k2,k3,k4⟩:=V (some ⟨b,d,none⟩) sl c _ f ⟨t1,A.next⟩ (R.dead a0) rfl q1 q2 q3 (by omega) u.1 u.2 X r;exact⟨_,w',_,k2,.sliceU (sl+n) bG k1,k3,(Ext.dead a0).trans k4⟩;cases h;cases h;cases h
    cases h
  cases h;cases h;cases h;cases h
theorem ERs.get:∀ {l:Lc}{l':List MapEntry},ERs σ l l'->∀ {i:Nat}{x},l[i]? =some x->∃ e,l'[i]? =some e/\ER σ x e
 |_,_,.nil,i,x,h=>by simp at h
 | _,_,.cons hv t,i,x,h=>by
  cases i with
  |zero=>grind
  |succ i=>simp at h;obtain⟨v',f,a⟩:=t.get h;exact⟨v',by simpa using f,a⟩
theorem ERs.append:∀ {l m:Lc}{l' a:List MapEntry},ERs σ l l'->ERs σ m a->ERs σ (l++m) (l'++a)
 |_,_,_,_,.nil,h=>h
 |_,_,_,_,.cons hv t,h=>.cons hv (t.append h)
theorem ERs.set:∀ {l:Lc}{l':List MapEntry}(n:Nat) {x e},ERs σ l l'->ER σ x e->ERs σ (l.set n x) (l'.set n e)
 |_,_,_,_,_,.nil,_=>.nil
 |_,_,0,_,_,.cons _ t,h=>.cons h t
 |_,_,n+1,_,_,.cons hv t,h=>.cons hv (t.set n h)
theorem ERs.erase:∀ {l:Lc}{l':List MapEntry}(n:Nat),ERs σ l l'->ERs σ (l.eraseIdx n) (l'.eraseIdx n)
 |_,_,_,.nil=>.nil
 |_,_,0,.cons _ t=>t
 |_,_,n+1,.cons hv t=>.cons hv (t.erase n)
theorem dK{o o2:Obj}(h:w.heap[b]? =some o)(a:∀ c e f,o≠ .cells c e f):(setObj b o2).run P w=.ok () {w with heap:=w.heap.setIfInBounds b o2}:=by unfold setObj;cases o<;>first|exact absurd rfl (a _ _ _)|simp[Sem.run,h]
def setA(A:AH)(B:Nat)(o:AObj):Option AH:=match T.set FU A.t B o with|some t=>some ⟨t,A.next⟩|none=>none
theorem nG(R:Rel P σ A w){o:AObj}{ob a:Obj}(r:A.t.get B=some o)(q:o.own=true)(l:o2.own=true)(g:σ B=some (b,d,c))(f:setA A B o2=some A')
 (z:w.heap[b]? =some ob) (k:OR P σ (some a) d c o2):
 Rel P σ A' {w with heap:=w.heap.setIfInBounds b a}/\Ext σ A w σ A' {w with heap:=w.heap.setIfInBounds b a}:=by
 unfold setA at f;split at f;rename_i t p;cases f;have D:b<w.heap.size:=by grind
 have u:(w.heap.setIfInBounds b a).size=w.heap.size:=by simp
 have s:∀ h,h≠b->(w.heap.setIfInBounds b a)[h]? =w.heap[h]?:=λh C=>by grind
 have H:(w.heap.setIfInBounds b a)[b]? =some a:=by grind
 exact⟨R.upd r q g p l u s (by simp only[H];exact k),Ext.upd r q g p u s rfl rfl rfl⟩;cases f
def gn (E:Env)(A:AH)(t:TypeId)(m k v:Value):Option AH:=
 match und E t,m with
 | some (.map kt et),.map (some B)=>(match A.t.get B with
   | some (.map es clock)=>bif flat k&&gN E false kt k then
     (match iH E kt k es with
     |some none=>setA A B (.map (es++[(k,v,clock)]) (clock+1))
     | some (some (i,_))=>(match nth es i with
       |some (key,_,born)=>bif Instr.sameBits 10000 key k then setA A B (.map (es.set i (k,v,born)) clock)else none
       |none=>none)
     |none=>none)else none
   |_=>none)
 |_,_=>none
theorem og(s:E.Ok)(R:Rel E.P σ A w){m k V f:Value}(hm:VR σ m V)(hk:VR σ k f)(X:VR σ v v')(h:gn E A t m k v=some A'):
 ∃w',(Instr.mapUpdate t V f v').run E.P w=.ok () w'/\Rel E.P σ A' w'/\Ext σ A w σ A' w':=by
 unfold gn at h;split at h;rename_i N et B Y;split at h;rename_i es a Q;cases I:(flat k&&gN E false N k);rw[I]at h;simp at h;rw[I]at h;simp only[C']at h;simp only[f']at I;obtain⟨hf,C⟩:=I;obtain rfl:=cY hf hk;obtain⟨b,d,c,g,Z,H,J⟩:=oe R Q;cases hm with
 | map l=>
  rw[l]at Z;cases Z;obtain⟨f1,f2⟩:=qa s J (kt:=N) (k:=f) w;have D:=dL (P:=E.P) H (by simp);split at h;rename_i r;have q:∀ dd U,OR E.P σ (some (.map (g.push {key:=f,val:=v',born:=a}) (a+1))) dd U (.map (es++[(f,v,a)]) (a+1)):=λ_ _=>⟨_,rfl,by rw[Array.toList_push];exact J.append (.cons ⟨rfl,X,rfl⟩ .nil)⟩;obtain⟨M,K⟩:=nG R Q rfl rfl l h H (q _ _);refine⟨_,?_,M,K⟩;simp[Instr.mapUpdate,aj s Y,D,li s C,f1 r,dK H (by simp)];rename_i i u r;obtain⟨u',g1,g2⟩:=f2 i u r;rw[aP]at h;split at h;rename_i key vv born hi;cases p:Instr.sameBits 10000 key f;rw[p]at h;simp at h;rw[p]at h;simp only[C']at h;obtain⟨e,e1,e2,e3,e4⟩:=J.get hi;simp only at e2 e3 e4;have S:g[i]? =some e:=by simpa using e1
  have z:(g.modify i λe=>{e with key:=f,val:=v'}).toList=g.toList.set i {e with key:=f,val:=v'}:=by apply I3;grind
  have q:∀ dd U,OR E.P σ (some (.map (g.modify i λe=>{e with key:=f,val:=v'}) a)) dd U (.map (es.set i (f,v,born)) a):=λ_ _=>⟨_,rfl,by rw[z];exact J.set i ⟨rfl,X,e4⟩⟩;obtain⟨M,K⟩:=nG R Q rfl rfl l h H (q _ _);refine⟨_,?_,M,K⟩;have O:(Instr.keyThatStays (((g[i]?).map (·.key)).getD f) f).run E.P w=.ok f w:=by rw[S];simp only[Ik,JD,e2,Instr.keyThatStays,p,Jt];rfl
  simp only[Instr.mapUpdate,HB,aj s Y,Hv,D,li s C,g1,O];exact dK H (by simp);cases h;cases h
 cases h;cases h
def delA (E:Env)(A:AH)(ts:List TypeId)(m k:Value):Option AH:=
 match ts with
 | t :: _ =>(match und E t with
   | some (.map kt et)=>bif flat k then(match m with
     | .map none=>bif gN E true kt k then some A else none
     | .map (some B)=>(match A.t.get B with
       | some (.map es clock)=>bif gN E es.isEmpty kt k then
         (match iH E kt k es with
         |some none=>setA A B (.map es clock)
         |some (some (i,_))=>setA A B (.map (es.eraseIdx i) clock)
         |none=>none)else none
       |_=>none)
     |_=>none)else none
   |_=>none)
 |_=>none
theorem del_ok(l:E.Ok)(R:Rel E.P σ A w){m k Z H:Value}(C:as[0]? =some Z)(z:as[1]? =some H)(hm:VR σ m Z)(hk:VR σ k H)(h:delA E A ts.toList m k=some A'):
 ∃w',(Builtin.delete_ ts ty as).run E.P w=.ok (.tuple #[]) w'/\Rel E.P σ A' w'/\Ext σ A w σ A' w':=by
 unfold delA at h;split at h;rename_i t a0 U;have q:=kl U;split at h;rename_i K et S;cases X:flat k;rw[X]at h;simp at h;rw[X]at h;simp only[C']at h;obtain rfl:=cY X hk;split at h;cases hm;cases f:gN E true K H;rw[f]at h;simp at h;rw[f]at h;simp only[C',osI]at h;subst h;exact⟨w,by simp[Builtin.delete_,q,C,z,aj l S,li l f],R,Ext.refl _ _ _⟩;rename_i B;split at h;rename_i N a V;obtain⟨b,d,c,D,h1,J,M⟩:=oe R V;cases hm with
 | map p=>
  rw[p]at h1;cases h1;cases f:gN E N.isEmpty K H;rw[f]at h;simp at h;rw[f]at h;simp only[C']at h;obtain⟨f1,f2⟩:=qa l M (kt:=K) (k:=H) w;have I:=dL (P:=E.P) J (by simp);have g:D.isEmpty=N.isEmpty:=by rw[<-M.isEmpty];grind
  split at h;rename_i s;have r:∀ dd Y,OR E.P σ (some (.map D a)) dd Y (.map N a):=λ_ _=>⟨_,rfl,M⟩;obtain⟨Q,O⟩:=nG R V rfl rfl p h J (r _ _);refine⟨_,?_,Q,O⟩;simp[Builtin.delete_,q,C,z,aj l S,I,g,li l f,f1 s,dK J (by simp)];rename_i i u s;obtain⟨u',g1,g2⟩:=f2 i u s;have r:∀ dd Y,OR E.P σ (some (.map (D.eraseIdxIfInBounds i) a)) dd Y (.map (N.eraseIdx i) a):=λ_ _=>⟨_,rfl,by rw[Array.toList_eraseIdxIfInBounds];exact M.erase i⟩;obtain⟨Q,O⟩:=nG R V rfl rfl p h J (r _ _);refine⟨_,?_,Q,O⟩;simp[Builtin.delete_,q,C,z,aj l S,I,g,li l f,g1,dK J (by simp)];cases h
 cases h;cases h;cases h;cases h
def xF (E :Env)(A:AH)(ts:List TypeId)(x:Value):Option AH:=
 match ts with
 | t :: _ =>(match und E t with
   | some (.slice e)=>(match x with
     | .slice none _ _=>some A
     | .slice (some ⟨B,o,none⟩) n k=>bif Nat.beq n 0 then some A else(match E.ti e with
       | some ie=>(match ie.zero with
         |some z=>bif z.cells.toList.all scal&&Nat.blt 0 z.cells.toList.length then fL A B o (rep z.cells.toList n)else none
         |none=>none)
       |none=>none)
     |_=>none)
   | some (.map _ _)=>(match x with
     | .map none=>some A
     | .map (some B)=>(match A.t.get B with|some (.map es clock)=>setA A B (.map [] clock)|_=>none)
     |_=>none)
   |_=>none)
 |_=>none
theorem Ag(s:E.Ok)(R:Rel E.P σ A w)(l:as[0]? =some x')(H:VR σ x x')(h:xF E A ts.toList x=some A'):
 ∃w',(Builtin.clear_ ts ty as).run E.P w=.ok (.tuple #[]) w'/\Rel E.P σ A' w'/\Ext σ A w σ A' w':=by
 unfold xF at h;split at h;rename_i t Z Q;have g:=kl Q;split at h;rename_i e u;split at h;cases H;cases h;exact⟨w,by simp[Builtin.clear_,g,l,aj s u],R,Ext.refl _ _ _⟩;rename_i B o n k;cases C:Nat.beq n 0 with
 | true=>
  rw[C]at h;simp only[C',osI]at h;subst h;obtain rfl:=Ho C;have q:∃ a' D,x'=.slice a' 0 D:=by cases H<;>exact⟨_,_,rfl⟩
  obtain⟨a',D,rfl⟩:=q;cases a'<;>exact⟨w,by simp[Builtin.clear_,g,l,aj s u],R,Ext.refl _ _ _⟩
 | false=>
  rw[C]at h;simp only[HJ]at h;have r:=aZ C;split at h;rename_i ie U;split at h;rename_i z hz;cases I:(z.cells.toList.all scal&&Nat.blt 0 z.cells.toList.length);rw[I]at h;simp at h;rw[I]at h;simp only[C']at h;simp only[f',blt_eq,HL]at I;have q:∃ b d c D,σ B=some (b,d,c)/\x'=.slice (some ⟨b,d+o,none⟩) n D:=by
   cases H with
   |slice i' M N f hk=>exact⟨_,_,_,_,f,rfl⟩
   |sliceU M f C=>exact⟨_,_,_,_,f,rfl⟩
   |sliceV i' M N f C=>exact⟨_,_,_,_,f,rfl⟩
   |sliceE a a' N=>exact absurd rfl r
   |gs0=>exact absurd rfl r
   |gs lo o' M N m f hk hc ho hm=>exact⟨_,_,_,_,f,rfl⟩
  obtain⟨b,d,c,D,f,rfl⟩:=q;obtain⟨w',K,J,r3⟩:=qX R (bt (jV I.1 n) σ) h f;refine⟨w',?_,J,r3⟩;have O:(Builtin.zeroCells z.cells n).toList=rep z.cells.toList n:=by have:=gG z.cells n (.inl (by simpa using I.2));unfold Builtin.zeroCells;rw[this]
  cases n with
  |zero=>exact absurd rfl r
  |succ n=>simp[Builtin.clear_,g,l,aj s u,fK s U hz,O,K]
  cases h;cases h
 cases h;rename_i kt et u;split at h;cases H;cases h;exact⟨w,by simp[Builtin.clear_,g,l,aj s u],R,Ext.refl _ _ _⟩;rename_i B;split at h;rename_i es p X;obtain⟨b,d,c,a0,Y,V,h3⟩:=oe R X;cases H with
 |map f=>rw[f]at Y;cases Y;have S:∀ dd cc,OR E.P σ (some (.map #[] p)) dd cc (.map [] p):=λ_ _=>⟨_,rfl,.nil⟩;obtain⟨K,J⟩:=nG R X rfl rfl f h V (S _ _);refine⟨_,?_,K,J⟩;simp[Builtin.clear_,g,l,aj s u,dL (P:=E.P) V (by simp),dK V (by simp)]
 cases h;cases h;cases h;cases h
def Ab(E:Env)(A:AH)(b:List TypeId)(c a:Value):Option (Value×AH):=bif E.sym then none else none
theorem ol{a:Option Addr}{k:Nat}(g:VR σ (.slice a n k) x'):∃ a' f,x'=.slice a' n f:=by cases g<;>exact⟨_,_,rfl⟩
theorem xA(k:E.Ok)(R:Rel E.P σ A w)(g:as[0]? =some x')(f:as[1]? =some y')(p:VR σ x x')(l:VR σ y y')(h:Ab E A ts.toList x y=some (v,A')):
 ∃w',(Builtin.copy_ ts ty as).run E.P w=.ok v w'/\flat v=true/\Rel E.P σ A' w'/\Ext σ A w σ A' w':=by unfold Ab at h;cases a:E.sym<;>rw[a]at h<;>cases h
def s2bA(E:Env)(A:AH)(a b:TypeId)(x:Value):Option (Value×AH):=bif E.sym then none else none
theorem s2b_ok(k:E.Ok)(R:Rel E.P σ A w){a f:TypeId}(l:VR σ x x')(h:s2bA E A a f x=some (v,A')):
 ∃v' w' σ',(convert a f x').run E.P w=.ok v' w'/\VR σ' v v'/\Rel E.P σ' A' w'/\Ext σ A w σ' A' w':=by unfold s2bA at h;cases g:E.sym<;>rw[g]at h<;>cases h
def ve(E:Env)(A:AH)(t:TypeId)(x:Value):Option (Value×AH):=bif E.sym then none else none
theorem yJ(f:E.Ok)(R:Rel E.P σ A w)(g:VR σ x x')(h:ve E A t x=some (v,A')):
 ∃v' w' σ',(Instr.range t x').run E.P w=.ok v' w'/\VR σ' v v'/\Rel E.P σ' A' w'/\Ext σ A w σ' A' w':=by unfold ve at h;cases a:E.sym<;>rw[a]at h<;>cases h
def Du(A:AH)(b:Value)(a:Bool):Option (Value×AH):=bif a then none else none
theorem Dt(k:E.Ok)(R:Rel E.P σ A w){f a:Value}{b:Bool}(l:VR σ f a)(h:Du A f b=some (v,A')):
 ∃v' w',(Instr.next a b ty).run E.P w=.ok v' w'/\VR σ v v'/\Rel E.P σ A' w'/\Ext σ A w σ A' w':=by unfold Du at h;cases g:b<;>rw[g]at h<;>cases h
theorem _root_.Go.Ia:type_of% @List.map_cons:=@List.map_cons
abbrev _root_.Go.Is:=@List.drop_eq_nil_of_le
theorem _root_.Go.H3:type_of% @List.mem_append:=@List.mem_append
theorem _root_.Go.Ic:type_of% @List.length_take:=@List.length_take
theorem _root_.Go.J7:type_of% @List.length_drop:=@List.length_drop
theorem xN(h:cellv v=true):v.cells.toList=[v]:=by cases v<;>simp_all [cellv,Value.oneCell',Value.cells]
def eV(agg:Bool)(sz:Nat):Nat->Lh->Lh
 |0,_=>[]
 | k+1,l=>(match agg with
   |true=>.agg ⟨l.take sz⟩
   |false=>(match l with|v::_=>v| []=>undef))::eV agg sz k (l.drop sz)
theorem ia{agg:Bool}{sz:Nat}(f:agg=true∨sz=1):∀ (k:Nat) (l:Lh),l.length=k*sz->l.all cellv=true->ap (eV agg sz k l)=l/\(∀x∈eV agg sz k l,x.cells.size=sz)/\(eV agg sz k l).length=k
 |0,l,h,_=>by have:l=[]:=H0 (by simpa using h);subst this;exact⟨rfl,λx p=>by simp[eV]at p,rfl⟩
 | k+1,l,h,hc=>by
  rw[JT]at h;have hd:(l.drop sz).length=k*sz:=by simp;omega
  have g:(l.drop sz).all cellv=true:=by grind
  obtain⟨z,H,s⟩:=ia f k (l.drop sz) hd g;have a:∃ u:Value,eV agg sz (k+1) l=u::eV agg sz k (l.drop sz)/\u.cells.toList=l.take sz:=by
   cases agg with
   |true=>exact⟨.agg ⟨l.take sz⟩,rfl,rfl⟩
   |false=>
   have f:sz=1:=by simpa using f
   subst f;cases l with
   |nil=>simp at h
   |cons v r=>refine⟨v,rfl,?_⟩;simp only[Jz,f']at hc;simpa using xN hc.1
  obtain⟨u,C,q⟩:=a;have D:u.cells.size=sz:=by
   have:u.cells.toList.length=sz:=by rw[q];simp;omega
   simpa using this
  rw[C];refine⟨by rw[aU,q,z,JF],λx p=>?_,by simp[s]⟩;grind
def srcG(E:Env)(A:AH)(e:TypeId)(sz:Nat)(x:Value):Option Lh:=
 match x with
 | .func (.yield sz') ⟨els⟩ ⟨[]⟩=>bif Nat.beq sz' sz then some els else none
 | .slice none n _=>bif Nat.beq n 0 then some []else none
 | .slice (some ⟨B,o,none⟩) n m=>(match isG m with
   | true=>(match A.t.get B with
     | some (.gro els tl e2)=>(match E.ti e2 with
       |some ie=>bif (Nat.beq ie.size sz&&Nat.beq (gsz m) sz)&&(Nat.blt 0 sz&&Nat.ble (n+gLo sz o) (glue els tl).length)then some (((glue els tl).drop (gLo sz o)).take n)else none
       |none=>none)
     |_=>none)
   | false=>(match gr A B o (n*sz),und E e with
     |some l,some d=>bif (Nat.blt m (unk+2)&&l.all cellv)&&(br d||Nat.beq sz 1)then some (eV (br d) sz n l)else none
     |_,_=>none))
 | .string s=>bif Nat.beq sz 1 then some (s.data.toList.map λb=>.int .u8 b.toNat)else none
 |_=>none
theorem uX{o:Nat}{l:Lh}(h:∀ (j:Nat) v,l[j]? =some v->w.cell? ⟨b,o+j,none⟩=some v)(w':World)(a:w'.heap=w.heap):(loadCells ⟨b,o,none⟩ l.length).run P w'=.ok l.toArray w':=
 Jq w' ⟨b,o,none⟩ l (λj v f=>by rw[aM];have:=h j v f;unfold World.cell? at this ⊢;rw[a];exact this)
theorem uh(h:∀ x∈els,x.cells.size=sz)(a n:Nat):∀ x∈(els.drop a).take n,x.cells.size=sz:=λx f=>h x (I0 (IJ f))
theorem CK(ok:E.Ok)(R:Rel E.P σ A w)(S:VR σ x x')(h:srcG E A e sz x=some news)(Z:(ap news).all cellv=true){Q:TypeId}
 (J:(∃e',E.P.underlying Q=some (.slice e'))∨E.P.underlying Q=some .string):∃ f,VRs σ (ap news) f/\Src E.P sz Q x' news.length f w/\(∀u∈news,u.cells.size=sz):=by
 have mk:∀ (b o H n:Nat) (f:Lh),VRs σ (ap news) f->(∀u∈news,u.cells.size=sz)->news.length=n->(∀(j:Nat) v,f[j]? =some v->w.cell? ⟨b,o+j,none⟩=some v)->
  Src E.P sz Q (.slice (some ⟨b,o,none⟩) n H) news.length f w:=by
  intro b o H n f C z N K
  subst N
  have X:f.length=news.length*sz:=by rw[C.length,aE z]
  have D:=λw' hw=>uX (P:=E.P) K w' hw
  rw[X]at D
  exact⟨J,λ_=>rfl,D w rfl,D w.drew rfl,X,C.cellv Z⟩
 have q:∀ (a:Option Addr) (H:Nat),news=[]->∃ f,VRs σ (ap news) f/\Src E.P sz Q (.slice a 0 H) news.length f w/\(∀u∈news,u.cells.size=sz):=by
  intro a H N;subst N;cases a with
  |none=>exact⟨[],.nil,⟨J,λ_=>rfl,rfl,rfl,by simp,by simp⟩,by simp⟩
  |some a'=>exact⟨[],.nil,⟨J,λ_=>rfl,by simp[Builtin.firstCells,loadCells,loadCellsFrom],by simp[Builtin.firstCells,loadCells,loadCellsFrom],by simp,by simp⟩,by simp⟩
 unfold srcG at h;split at h;rename_i a3 els;cases p:Nat.beq a3 sz;rw[p]at h;cases h;rw[p]at h;obtain rfl:=Ho p;simp only[C',osI]at h;subst h;cases S with
 |func fn hf=>simp[Fn.still]at hf
 | @dat b o k _ e0 fz c _ hro z hk0 hc=>
  refine⟨_,hc,mk b o k _ _ hc z rfl (λj v C=>?_),z⟩;rw[Io]at C;split at C;rw[IB]at C;have:c[o+j]? =some v:=by simpa using C
  simp[World.cell?,R.ro b _ hro,this];cases C
 |datN=>exact q none 0 rfl
 |datE _ a k=>exact q (some a) k rfl
 rename_i n k;cases p:Nat.beq n 0;rw[p]at h;cases h;rw[p]at h;obtain rfl:=Ho p;simp only[C',osI]at h;cases S;exact q none k h.symm;rename_i B o n m;split at h;rename_i hg;split at h;rename_i a1 a2 e2 hB;rw[bW]at h;generalize hE:a1++a2=els at h;split at h;rename_i ie a6;cases p:(Nat.beq ie.size sz&&Nat.beq (gsz m) sz)&&(Nat.blt 0 sz&&Nat.ble (n+gLo sz o) els.length);rw[p]at h;cases h;rw[p]at h;simp only[C',osI]at h;simp only[f',Hy,Iv,HA]at p;obtain⟨⟨z,Y⟩,U,a5⟩:=p;rcases b7 S hg with⟨rfl,a,rfl⟩|⟨b,d,c,lo,k,g,rfl,N,hc,rfl⟩;exact q a 0 (by rw[<-h];simp);rw[Y,lq U]at h a5;have a7:E.P.cellsOf e2=sz:=by simp[Program.cellsOf,ok.ti _ _ a6,z]
 obtain⟨c',l0,h0,M,g2,g3,g4,g5,g6⟩:=R.at hB rfl g;rw[hE]at g3 g4 g6;rw[a7]at g4 g5;have r:=uh g4 lo n;rw[h]at r;have I:news.length=n:=by rw[<-h];simp;omega
 have a9:ap news=((ap els).drop (lo*sz)).take (n*sz):=by grind [bP,cb,I0]
 have V:(lo+n)*sz<=c*sz:=H5 _ (by omega);rw[IG]at V;have C:VRs σ (ap news) ((c'.toList.drop (d+lo*sz)).take (n*sz)):=by refine VRs.of_get ?_ λj v O=>?_;rw[aE r,I];simp;omega;grind
 refine⟨_,C,?_,r⟩;rw[Y];refine mk b (d+lo*sz) k n _ C r I λj v O=>?_;rw[Io]at O;split at O;rw[IB]at O;have:c'[d+lo*sz+j]? =some v:=by simpa using O
 simp[World.cell?,M,this];cases O;cases h;cases h;rename_i hg;split at h;rename_i l dd X hu;cases p:(Nat.blt m (unk+2)&&l.all cellv)&&(br dd||Nat.beq sz 1)with
 |false=>rw[p]at h;cases h
 | true=>
  rw[p]at h;simp only[C',osI]at h;simp only[f',Iu,Hy,Iv]at p;obtain⟨⟨hm,a8⟩,hz⟩:=p;obtain⟨h1,h2,h3⟩:=ia hz n l (dn X) a8;rw[h]at h1 h2 h3;have a0:∃ b d c H,σ B=some (b,d,c)/\x'=.slice (some ⟨b,d+o,none⟩) n H:=by
   cases S with
   |slice i' n' k' g J=>exact⟨_,_,_,_,g,rfl⟩
   |sliceU n' g N=>exact⟨_,_,_,_,g,rfl⟩
   |sliceV i' n' k' g N=>exact⟨_,_,_,_,g,rfl⟩
   |sliceE a a' k'=>omega
   |gs0 B o m a a4=>omega
   |gs lo o' n' k' m g J hc ho a4=>omega
  obtain⟨b,d,c,H,g,rfl⟩:=a0;obtain⟨l',M,g2⟩:=cW R X g;rw[<-h1]at M;refine⟨l',M,⟨J,λ_=>by rw[h3];rfl,?_,?_,by rw[M.length,aE h2],M.cellv Z⟩,h2⟩;rw[h3];exact g2 w rfl;rw[h3];exact g2 w.drew rfl
 cases h;rename_i s;cases p:Nat.beq sz 1;rw[p]at h;cases h;rw[p]at h;simp only[C',osI]at h;obtain rfl:=Ho p;have h1:∀ u∈news,u.cells.size=1:=by rw[<-h];intro u hu;obtain⟨_,_,rfl⟩:=Hn.1 hu;rfl
 have h2:∀ l:List UInt8,ap (l.map λb=>Value.int .u8 b.toNat)=l.map λb=>Value.int .u8 b.toNat:=by
  intro l;induction l with
  |nil=>rfl
  |cons x l ih=>rw[Ia,aU,ih];rfl
 obtain⟨f,M,g2,g3,_⟩:=AG R S (size:=1) (n:=s.size) (news:=news) (by rw[<-h];rfl) J;grind;cases h
def oy (E : Env)(A:AH)(ts:List TypeId)(B o n m:Nat)(x:Value):Option (Value×AH):=
 match ts with
 | [t, tx] => (match und E t,und E tx with
   | some (.slice e),some dx=>(match E.ti e,A.t.get B with
     | some ie,some (.gro els tl eb)=>(match ie.zero,srcG E A e ie.size x with
       | some z,some news=>
         bif (cI dx&&(Nat.beq z.cells.toList.length ie.size&&Nat.blt 0 ie.size))&&(Nat.beq eb e&&(Nat.beq (gsz m) ie.size&&isG m))then
          bif ((ap news).all cellv&&Nat.beq (n+gLo ie.size o) (glue els tl).length)&&(Nat.ble (n+news.length) 70368744177664&&Nat.ble ((n+news.length)*ie.bytes) 140737488355328)then
           (match T.set FU A.t B .dead with
           | some t'=>(match T.set FU t' A.next (.gro ((glue els tl).drop (gLo ie.size o)) news e)with
             |some t''=>some (.slice (some ⟨A.next,0,none⟩) (n+news.length) m,⟨t'',A.next+1⟩)
             |none=>none)
           |none=>none)
          else none
         else none
       |_,_=>none)
     |_,_=>none)
   |_,_=>none)
 |_=>none
theorem tt{a:TypeInfo}{z:Value}{cap:Nat}(r:P.info? e=some a)(l:z.cells.size=a.size)(f:∀ x∈els++tl,x.cells.size=a.size)(k:(els++tl).length<=cap)(h:VRs σ' (ap (els++tl)) c'):
 OR P σ' (some (.cells (c'.toArray++Builtin.zeroCells z.cells (cap-(els++tl).length)) e)) 0 cap (.gro els tl e):=by
 have g:P.cellsOf e=a.size:=by simp[Program.cellsOf,r]
 have q:c'.length=(els++tl).length*a.size:=by rw[h.length,aE f]
 refine⟨_,0,0,rfl,λi _ h=>by omega,λi v p=>?_,by rw[g];exact f,?_,k⟩;obtain⟨v',u,s⟩:=h.get p;grind;rw[Array.size_append,fV,l,Ix,q,g,IW,<-IG];exact Kf (by congr 1;omega)
theorem wQ(ok:E.Ok)(R:Rel E.P σ A w){o:Nat}(hs:VR σ (.slice (some ⟨B,o,none⟩) n m) s')(hx:VR σ x x')(h:oy E A ts.toList B o n m x=some (v,A')):
    ∃v' w' σ',(Builtin.append_ ts ty #[s',x']).run E.P w=.ok v' w'/\VR σ' v v'/\Rel E.P σ' A' w'/\Ext σ A w σ' A' w':=by
  unfold oy at h;split at h;rename_i t tx e3;obtain rfl:ts= #[t,tx]:=by cases ts;simp_all
  split at h;rename_i e dx hu d2;split at h;rename_i f d0 d1 Q d6 hB;rw[bW]at h;generalize hE:d0++d1=els at h;split at h
  · rename_i z news hz b0;cases hb:(cI dx&&(Nat.beq z.cells.toList.length f.size&&Nat.blt 0 f.size))&&(Nat.beq Q e&&(Nat.beq (gsz m) f.size&&isG m))with
    |false=>rw[hb]at h;simp at h
    |true=>
    rw[hb]at h;simp only[C']at h;simp only[f',Hy,Iv]at hb;obtain⟨⟨b1,b2,b3⟩,rfl,M,hg⟩:=hb;have b2:z.cells.size=f.size:=by simpa using b2
    cases X:((ap news).all cellv&&Nat.beq (n+gLo f.size o) els.length)&&(Nat.ble (n+news.length) 70368744177664&&Nat.ble ((n+news.length)*f.bytes) 140737488355328)with
    |false=>rw[X]at h;simp at h
    |true=>
    rw[X]at h;simp only[C']at h;simp only[f',Hy,HA]at X;obtain⟨⟨c6,a8⟩,e5,e4⟩:=X;split at h;rename_i t1 I;split at h
    · rename_i t2 C;cases h;have a3:=cd ok hu;have hi:=ok.ti _ _ d6;have hk:(∃e',E.P.underlying tx=some (.slice e'))∨E.P.underlying tx=some .string:=by have:=cd ok d2;cases dx<;>simp[cI]at b1;all_goals grind
      obtain⟨g,q,hS,Z⟩:=CK ok R hx b0 c6 hk;have d7:E.P.cellsOf Q=f.size:=by simp[Program.cellsOf,hi]
      have a1:∀ (H:Option Addr) (U:Nat) (s p:Lh),VRs σ (ap s) p->(∀x∈s,x.cells.size=f.size)->s=els.drop (gLo f.size o)->s.length=n->
          (Builtin.firstCells f.size n (.slice H n U)).run E.P w.drew=.ok p.toArray w.drew->U<n+news.length->
          ∃v' w' σ',(Builtin.append_ #[t,tx] ty #[.slice H n U,x']).run E.P w=.ok v' w'/\VR σ' (.slice (some ⟨A.next,0,none⟩) (n+news.length) m) v'/\Rel E.P σ' ⟨t2,A.next+1⟩ w'/\Ext σ A w σ' ⟨t2,A.next+1⟩ w':=by
        intro H U s p ho e0 b5 V b4 c2
        have c5:Builtin.nextslicecap (n+news.length) U*f.bytes<=281474976710656:=by
          have h1:=Room.nextslicecap_le' c2
          calc Builtin.nextslicecap (n+news.length) U*f.bytes<=2*(n+news.length)*f.bytes:=H5 _ h1
            _=2*((n+news.length)*f.bytes):=Nat.mul_assoc _ _ _
            _<=281474976710656:=by omega
        have Y:=run_append_grow_src w t tx ty Q f z a3 hi hz H n U p b4 x' news.length g hS c2 (by omega) c5
        have a7:=grownCap_ge w (n+news.length) U Q
        generalize grownCap w (n+news.length) U Q=cap at Y a7
        have R0:Rel E.P σ ⟨t1,A.next⟩ w:=R.dead I
        have u:=ch (x:=(w.heap.size,0,cap)) (R0.fresh A.next (Hw _))
        have c3:(els.drop (gLo f.size o)++news).length=n+news.length:=by rw[E',<-b5,V]
        refine⟨_,_,upd σ A.next (w.heap.size,0,cap),Y,?_,?_,?_⟩
        · have K:=VR.gsMk (σ:=upd σ A.next (w.heap.size,0,cap)) (lo:=0) (n:=n+news.length) (k:=cap) (m:=m) bG hg a7 (Kf (IW _))
          simpa using K
        · refine R0.alloc (ob:=.cells ((p++g).toArray++Builtin.zeroCells z.cells (cap-(n+news.length))) Q) C (R0.fresh _ (Hw _)) (I9 _) (Jb _) ?_ rfl
          have e6:=tt (P:=E.P) (σ':=upd σ A.next (w.heap.size,0,cap)) (els:=els.drop (gLo f.size o)) (tl:=news) (c':=p++g) (e:=Q) (cap:=cap) hi b2 (λx hx=>by
            grind) (by rw[c3];exact a7) (by rw[bv,<-b5];exact(ho.mono u).append (q.mono u))
          grind
        · exact(Ext.dead I).trans (Ext.alloc R0 C (Jb _) (ob:=.cells ((p++g).toArray++Builtin.zeroCells z.cells (cap-(n+news.length))) Q) rfl rfl rfl rfl)
      rcases b7 hs hg with⟨rfl,a,rfl⟩|⟨b,d,c,lo,k,a2,rfl,hn,hc,rfl⟩;have N:els.drop (gLo f.size o)=[]:=Is (by omega);by_cases d4:news.length=0;have c1:news=[]:=H0 d4;subst c1;have a5:g=[]:=by have:=q.length;simpa[ap]using this
      subst a5;rw[N]at C;obtain⟨q1,q2⟩:=Rel.nilGro (R.dead I) C;exact⟨_,w,_,run_append_nothing w t tx ty Q f a3 hi a 0 0 (Hw _) x' hS,VR.gs0Mk _ _ m a hg,q1,(Ext.dead I).trans q2⟩;exact a1 a 0 [] [] .nil (by simp) N.symm rfl (by cases a<;>simp[Builtin.firstCells,loadCells,loadCellsFrom]) (by omega);rw[M,lq b3]at a8;rw[M,lq b3]at C;obtain⟨S,l0,h0,g1,g2,g3,g4,g5,g6⟩:=R.at hB rfl a2;rw[hE]at g3 g4 g6;rw[d7]at g4 g5;have a6:(lo+k)*f.size=lo*f.size+k*f.size:=IG _ _ _;have d9:(lo+k)*f.size<=c*f.size:=H5 _ hc;rw[a6]at d9;have f1:=aE g4;have O:(els.drop lo).length=n:=by simp;omega
      have f2:ap (els.drop lo)=(ap els).drop (lo*f.size):=(bP lo g4).symm;have D:∀ x∈els.drop lo,x.cells.size=f.size:=λx hx=>g4 x (I0 hx);have a4:∀ (i:Nat) v,(ap (els.drop lo))[i]? =some v->∃ v',S[d+lo*f.size+i]? =some v'/\VR σ v v':=λi v K=>by grind
      by_cases r:n+news.length<=k;have c0:g.length=news.length*f.size:=by rw[q.length,aE Z]
      have a0:(n+news.length)*f.size<=k*f.size:=H5 _ r;rw[IG]at a0;have d3:d+lo*f.size+n*f.size+g.length<=S.size:=by omega
      obtain⟨w',r1,r2,r3,r4,r5,r6,r7,r8⟩:=cP (P:=E.P) g 0 w b (d+lo*f.size+n*f.size) S Q l0 h0 g1 (by omega) g2 (q.cellv c6);have u:σ.sub (upd σ A.next (b,d+lo*f.size,k)):=ch (R.fresh _ (Hw _));refine⟨.slice (some ⟨b,d+lo*f.size,none⟩) (n+news.length) k,w',upd σ A.next (b,d+lo*f.size,k),?_,?_,?_,Ext.move R hB rfl a2 I C r2 r3 r5 r6 r7⟩;rw[M];rcases hk with⟨e',hk⟩|hk<;>simp[Builtin.append_,Jh a3,Jh hk,sizeOf,typeInfo,hi,hS.len,r,hS.cells,aM,r1];have K:=VR.gsMk (σ:=upd σ A.next (b,d+lo*f.size,k)) (lo:=0) (n:=n+news.length) (k:=k) (m:=m) bG hg r (Kf (IW _));simpa using K
      · refine R.move hB rfl a2 I C rfl r2 r3 ?_;rw[r4];have a9:d+lo*f.size+n*f.size+g.length<=S.toList.length:=by simpa using d3
        refine⟨_,l0,h0,rfl,λi f0=>g2 i (by grind [Ix,bn]),λi v J=>?_,λx hx=>?_,?_,by rw[E',O];exact r⟩;have c4:(over S.toList (d+lo*f.size+n*f.size+0) g).toArray[d+lo*f.size+i]? =(over S.toList (d+lo*f.size+n*f.size) g)[d+lo*f.size+i]?:=by simp
        rw[c4,bZ a9];rw[bv,Ii,aE D,O]at J;by_cases k1:i<n*f.size;rw[Ht k1]at J;rw[Ht (by omega)];obtain⟨v',e1,e2⟩:=a4 i v J;exact⟨v',by simpa using e1,e2.mono u⟩;rw[Hm k1]at J;rw[Hm (by omega)];have d5:i-n*f.size<(ap news).length:=(Hx.1 J).1;rw[aE Z]at d5;rw[Ht (by rw[c0];omega)];obtain⟨v',e1,e2⟩:=q.get J;have ei:d+lo*f.size+i-(d+lo*f.size+n*f.size)=i-n*f.size:=by omega
        exact⟨v',by rw[ei];exact e1,e2.mono u⟩;all_goals grind [H3,Ix,bn]
      have V:VRs σ (ap (els.drop lo)) ((S.toList.drop (d+lo*f.size)).take (n*f.size)):=by
       have a0:n*f.size<=k*f.size:=H5 _ hn;refine VRs.of_get (by rw[aE D,O];simp;omega) λj v K=>?_;have hj:j<n*f.size:=by grind [Hx,aE]
       grind
      have e9:((S.toList.drop (d+lo*f.size)).take (n*f.size)).length=n*f.size:=by rw[V.length,aE D,O]
      rw[M];refine a1 (some ⟨b,d+lo*f.size,none⟩) k (els.drop lo) _ V D (by rw[M,lq b3]) O ?_ (by omega);show(loadCells ⟨b,d+lo*f.size,none⟩ (n*f.size)).run E.P w.drew=_;have:=uX (P:=E.P) (w:=w) (b:=b) (o:=d+lo*f.size) (l:=(S.toList.drop (d+lo*f.size)).take (n*f.size)) (λj v K=>by
       rw[Io]at K;split at K;rw[IB]at K;have:S[d+lo*f.size+j]? =some v:=by simpa using K
       simp[World.cell?,g1,this];cases K) w.drew rfl
      grind
    cases h;cases h
  cases h;cases h;cases h;cases h
def mM(E:Env)(A:AH)(a:List TypeId)(B o n m:Nat)(x:Value):Option (Value×AH):=bif E.sym then none else none
theorem tV(f:E.Ok)(R:Rel E.P σ A w){o:Nat}(k:VR σ (.slice (some ⟨B,o,none⟩) n m) s')(g:VR σ x x')(h:mM E A ts.toList B o n m x=some (v,A')):
 ∃v' w' σ',(Builtin.append_ ts ty #[s',x']).run E.P w=.ok v' w'/\VR σ' v v'/\Rel E.P σ' A' w'/\Ext σ A w σ' A' w':=by unfold mM at h;cases a:E.sym<;>rw[a]at h<;>cases h
theorem Rel.retell(R:Rel P σ A w){f:Nat}{o:AObj}{t:T AObj}(S:A.t.get B=some o)(p:T.set f A.t B o2=some t)(h1:o2.own=o.own)(U:o2.here=o.here)(h3:o2.nilOk=o.nilOk)(O:∀ b d c:Nat,OR P σ w.heap[b]? d c o->OR P σ w.heap[b]? d c o2):
 Rel P σ ⟨t,A.next⟩ w/\Ext σ A w σ ⟨t,A.next⟩ w:=by
 have Q:=H6 p;have k:∀ {a:Nat}{g:AObj},t.get a=some g->∃ l,A.t.get a=some l/\g.own=l.own/\g.here=l.here:=fun {a g} h=>by grind
 refine⟨⟨λa g h q=>?_,λB1 B2 o1 o2 x x' H D z q C u s=>?_,R.lt,R.fresh,R.ro,λa g x h z u=>?_,R.nl⟩,⟨λ_ _=>rfl,Hw _,Hw _,λ_ _ _=>rfl,λa g x H D V=>?_,λa g x H D V=>?_,rfl,rfl,rfl,λ_ _ h=>h,λ_ _ h=>.inl h,λ_ _=>JC⟩⟩;have h:t.get a=some g:=h;rw[Q]at h;by_cases e:a=B;· subst e;rw[Ht rfl]at h;cases h;rcases R.obj0 a o S (by rw[<-U];exact q)with⟨b,d,c,N,M⟩|⟨N,M⟩;all_goals grind
 rw[Hm e]at h;exact R.obj0 a g h q;obtain⟨r,J,I,Z⟩:=k H;obtain⟨K,Y,b2,X⟩:=k D;exact R.inj B1 B2 r K x x' J Y (I▸z) (X▸q) C u s;obtain⟨r,J,I,Z⟩:=k h;exact R.sep a r x J (I▸z) u;all_goals grind
theorem Rel.retellAt(R:Rel P σ A w){f:Nat}{o:AObj}{t:T AObj}(S:A.t.get B=some o)(p:T.set f A.t B o2=some t)(h1:o2.own=o.own)(U:o2.here=o.here)(h3:o2.nilOk=o.nilOk)(O:∀ b d c:Nat,σ B=some (b,d,c)->OR P σ w.heap[b]? d c o->OR P σ w.heap[b]? d c o2):
 Rel P σ ⟨t,A.next⟩ w/\Ext σ A w σ ⟨t,A.next⟩ w:=by
 have Q:=H6 p;have k:∀ {a:Nat}{g:AObj},t.get a=some g->∃ l,A.t.get a=some l/\g.own=l.own/\g.here=l.here:=fun {a g} h=>by grind
 refine⟨⟨λa g h q=>?_,λB1 B2 o1 o2 x x' H D z q C u s=>?_,R.lt,R.fresh,R.ro,λa g x h z u=>?_,R.nl⟩,⟨λ_ _=>rfl,Hw _,Hw _,λ_ _ _=>rfl,λa g x H D V=>?_,λa g x H D V=>?_,rfl,rfl,rfl,λ_ _ h=>h,λ_ _ h=>.inl h,λ_ _=>JC⟩⟩;have h:t.get a=some g:=h;rw[Q]at h;by_cases e:a=B;· subst e;rw[Ht rfl]at h;cases h;rcases R.obj0 a o S (by rw[<-U];exact q)with⟨b,d,c,N,M⟩|⟨N,M⟩;all_goals grind
 rw[Hm e]at h;exact R.obj0 a g h q;obtain⟨r,J,I,Z⟩:=k H;obtain⟨K,Y,b2,X⟩:=k D;exact R.inj B1 B2 r K x x' J Y (I▸z) (X▸q) C u s;obtain⟨r,J,I,Z⟩:=k h;exact R.sep a r x J (I▸z) u;all_goals grind
def splc(l:Lh)(a:Nat)(b:Lh):Lh:=l.take a++(b++l.drop (a+b.length))
def mK(E:Env)(A:AH)(a:List TypeId)(B o n m e c b d:Nat):Option (Value×AH):=bif E.sym then none else none
theorem qq(h:∀ x∈els,x.cells.size=sz)(a:∀ x∈news,x.cells.size=sz):ap (splc els lo news)=over (ap els) (lo*sz) (ap news):=by unfold splc over;rw[bv,bv,cb lo h,aE a,<-IG,bP (lo+news.length) h,Im]
theorem pi(h:lo+news.length<=els.length):(splc els lo news).length=els.length:=by grind [splc,E',Ic,J7]
theorem tS(p:E.Ok)(R:Rel E.P σ A w){o B2 o2 a f:Nat}(l:as[0]? =some x')(k:as[1]? =some y')
 (r:VR σ (.slice (some ⟨B,o,none⟩) n m) x') (q:VR σ (.slice (some ⟨B2,o2,none⟩) a f) y') (h:mK E A ts.toList B o n m B2 o2 a f=some (v,A')):
 ∃w',(Builtin.copy_ ts ty as).run E.P w=.ok v w'/\flat v=true/\Rel E.P σ A' w'/\Ext σ A w σ A' w':=by unfold mK at h;cases g:E.sym<;>rw[g]at h<;>cases h
def m7(E:Env)(A:AH)(ts:List TypeId)(d s:Value):Option (Value×AH):=
 match d,s with
 | .slice (some ⟨B,o,none⟩) n m,.slice (some ⟨B2,o2,none⟩) n2 m2=>(match isG m with
   |true=>mK E A ts B o n m B2 o2 n2 m2
   |false=>Ab E A ts (.slice (some ⟨B,o,none⟩) n m) (.slice (some ⟨B2,o2,none⟩) n2 m2))
 |d,s=>Ab E A ts d s
theorem ue(g:E.Ok)(R:Rel E.P σ A w)(f:as[0]? =some x')(a:as[1]? =some y')(l:VR σ x x')(k:VR σ y y')(h:m7 E A ts.toList x y=some (v,A')):
 ∃w',(Builtin.copy_ ts ty as).run E.P w=.ok v w'/\flat v=true/\Rel E.P σ A' w'/\Ext σ A w σ A' w':=by unfold m7 at h;split at h;split at h;exact tS g R f a l k h;exact xA g R f a l k h;exact xA g R f a l k h
def C4(B:Nat)(x:Value):Bool:=match x with| .slice (some ⟨B2,_,none⟩) _ _=>Nat.beq B B2|_=>false
def fB(E:Env)(A:AH)(ts:List TypeId)(s x:Value):Option (Value×AH):=
 match s with
 | .slice (some ⟨B,o,none⟩) n m=>(match isG m with
   |true=>bif C4 B x then mM E A ts B o n m x else oy E A ts B o n m x
   |false=>eM E A ts s x)
 |_=>eM E A ts s x
theorem ya(a:E.Ok)(R:Rel E.P σ A w){s:Value}(g:VR σ s s')(f:VR σ x x')(h:fB E A ts.toList s x=some (v,A')):
 ∃v' w' σ',(Builtin.append_ ts ty #[s',x']).run E.P w=.ok v' w'/\VR σ' v v'/\Rel E.P σ' A' w'/\Ext σ A w σ' A' w':=by unfold fB at h;split at h;split at h;rw[Bool.cond_eq_ite]at h;split at h;exact tV a R g f h;exact wQ a R g f h;exact oW a R g f h;exact oW a R g f h
abbrev _root_.Go.JG:=@Array.getElem?_append
abbrev _root_.Go.JH:=@List.drop_zero
abbrev _root_.Go.H8:=@Array.getD_eq_getD_getElem?
abbrev _root_.Go.Jl:=@Array.getElem?_setIfInBounds
abbrev _root_.Go.Jm:=@Option.bind_some
def okB:Value->Bool
 | .int .u8 (.ofNat n)=>Nat.blt n 256
 |_=>false
def yp(E:Env)(A:AH)(a:List TypeId)(p n:Value):Option (Value×AH):=bif E.sym then none else none
theorem Ch(l:E.Ok)(R:Rel E.P σ A w){a:Array TypeId}{p n f g:Value}(q:VR σ p f)(r:VR σ n g)(h:yp E A a.toList p n=some (v,A')):
 ∃w',(Builtin.unsafeString_ a ty #[f,g]).run E.P w=.ok v w'/\flat v=true/\Rel E.P σ A' w'/\Ext σ A w σ A' w':=by unfold yp at h;cases k:E.sym<;>rw[k]at h<;>cases h
def effB(E:Env)(A:AH)(ρ:Operand->Lj)(b:Builtin)(c:Call):Option (Value×AH):=
 match b with
 | .append=>(match c.args.toList with
   | [x,y]=>(match ρ x,ρ y with|some s,some v=>fB E A c.argTypes.toList s v|_,_=>none)
   |_=>none)
 | .delete=>(match c.args.toList with
   | [x,y]=>(match ρ x,ρ y with|some m,some k=>(match delA E A c.argTypes.toList m k with|some A'=>some (undef,A')|none=>none)|_,_=>none)
   |_=>none)
 | .clear=>(match c.args.toList with
   | [x]=>(match ρ x with|some m=>(match xF E A c.argTypes.toList m with|some A'=>some (undef,A')|none=>none)|none=>none)
   |_=>none)
 | .copy=>(match c.args.toList with
   | [x,y]=>(match ρ x,ρ y with|some d,some s=>m7 E A c.argTypes.toList d s|_,_=>none)
   |_=>none)
 | .unsafeString=>(match c.args.toList with
   | [x,y]=>(match ρ x,ρ y with|some p,some n=>yp E A c.argTypes.toList p n|_,_=>none)
   |_=>none)
 |_=>none
def effA(E:Env)(A:AH)(ρ:Operand->Lj)(op:Op):Option (Value×AH):=
 match op with
 | .store t a x=>(match ρ a,ρ x with|some p,some v=>(match iN E A t p v with|some A'=>some (undef,A')|none=>none)|_,_=>none)
 | .mapUpdate t m k x=>(match ρ m,ρ k,ρ x with|some m,some k,some v=>(match gn E A t m k v with|some A'=>some (undef,A')|none=>none)|_,_,_=>none)
 | .insert t m k x=>(match ρ m,ρ k,ρ x with|some m,some k,some v=>(match gn E A t m k v with|some A'=>some (undef,A')|none=>none)|_,_,_=>none)
 | .convert s d x=>(match ρ x with|some v=>s2bA E A s d v|none=>none)
 | .range t x=>(match ρ x with|some v=>ve E A t v|none=>none)
 | .next it b=>(match ρ it with|some v=>Du A v b|none=>none)
 | .call c=>(match c.callee with| .builtin b=>effB E A ρ b c|_=>none)
 |_=>none
theorem i9{a g :Type}{l:Array a}{x y: a}(h:l.toList=[x,y])(f: a -> g):l.map f= #[f x,f y]:=by grind [H9,Jj]
theorem vB{a g :Type}{l:Array a}{x: a}(h:l.toList=[x])(f: a -> g):l.map f= #[f x]:=by grind [H9,Jj]
theorem Gj(r:E.Ok)(R:Rel E.P σ A w)(a:OpR σ ρ ρ'){b:Builtin}{c:Call}{cs:Array Bool}
 (h:effB E A ρ b c=some (v,A')):Good E.P σ A w ((builtin b c.argTypes ty cs (c.args.map ρ')).run E.P w) v A':=by unfold effB at h;split at h;split at h;rename_i x y f;split at h;rename_i s u z I;obtain⟨v',g,σ',q,p,l,H⟩:=ya r R (ty:=ty) (a x s z) (a y u I) h;refine Good.value (v':=v') (w':=g) ?_ p l H;rw[i9 f];simp[builtin,q];cases h;cases h;split at h;rename_i x y f;split at h;rename_i m k D J;split at h;rename_i K hd;cases h;obtain⟨g,q,p,l⟩:=del_ok r R (ty:=ty) (as:= #[ρ' x,ρ' y]) rfl rfl (a x m D) (a y k J) hd;refine Good.value (v':=.tuple #[]) (w':=g) ?_ (cv σ) p l;rw[i9 f];simp[builtin,q];cases h;cases h;cases h;split at h;rename_i x f;split at h;rename_i m D;split at h;rename_i K hd;cases h;obtain⟨g,q,p,l⟩:=Ag r R (ty:=ty) (as:= #[ρ' x]) rfl (a x m D) hd;refine Good.value (v':=.tuple #[]) (w':=g) ?_ (cv σ) p l;rw[vB f];simp[builtin,q];cases h;cases h;cases h;split at h;rename_i x y f;split at h;rename_i d s hd z;obtain⟨g,q,C,p,l⟩:=ue r R (ty:=ty) (as:= #[ρ' x,ρ' y]) rfl rfl (a x d hd) (a y s z) h;refine Good.value (v':=v) (w':=g) ?_ (bI C σ) p l;rw[i9 f];simp[builtin,q];cases h;cases h;split at h;rename_i x y f;split at h;rename_i d s hd z;obtain⟨g,q,C,p,l⟩:=Ch r R (ty:=ty) (a x d hd) (a y s z) h;refine Good.value (v':=v) (w':=g) ?_ (bI C σ) p l;rw[i9 f];simp[builtin,q];cases h;cases h;cases h
theorem oE(D:E.Ok)(R:Rel E.P σ A w)(g:OpR σ ρ ρ')
 (h:effA E A ρ o.op=some (v,A')):Good E.P σ A w ((execOp ρ' o).run E.P w) v A':=by unfold effA at h;unfold execOp;split at h;rename_i t a x f;rw[f];split at h;rename_i p u S C;split at h;rename_i O I;cases h;obtain⟨l,z,r,q⟩:=yy D R (g a p S) (g x u C) I;exact Good.skip (w':=l) (by simp[z]) r q;cases h;cases h;rename_i t m k x f;rw[f];split at h;rename_i J K u M N C;split at h;rename_i O I;cases h;obtain⟨l,z,r,q⟩:=og D R (g m J M) (g k K N) (g x u C) I;exact Good.skip (w':=l) (by simp[z]) r q;cases h;cases h;rename_i t m k x f;rw[f];split at h;rename_i J K u M N C;split at h;rename_i O I;cases h;obtain⟨l,z,r,q⟩:=og D R (g m J M) (g k K N) (g x u C) I;exact Good.skip (w':=l) (by simp[z]) r q;cases h;cases h;rename_i s d x f;rw[f];split at h;rename_i u C;obtain⟨v',l,σ',z,r,q,H⟩:=s2b_ok D R (g x u C) h;exact Good.value (v':=v') (w':=l) (by simp[z]) r q H;cases h;rename_i t x f;rw[f];split at h;rename_i u C;obtain⟨v',l,σ',z,r,q,H⟩:=yJ D R (g x u C) h;exact Good.value (v':=v') (w':=l) (by simp[z]) r q H;cases h;rename_i Q b f;rw[f];split at h;rename_i u C;obtain⟨v',l,z,r,q,H⟩:=Dt D R (ty:=o.type) (g Q u C) h;exact Good.value (v':=v') (w':=l) (by simp[z]) r q H;cases h;rename_i c f;rw[f];split at h;rename_i b U;have:=Gj D R g (ty:=o.type) (cs:=c.args.map fun| .const _=>true|_=>false) h;simp only[resolve,U,HB,Ih,Hv,invoke];exact this;cases h;cases h
def DD(E:Env)(t:TypeId)(a:String):Option FuncId:=bif E.sym then none else none
theorem DC(k:E.Ok){a:String}{f:FuncId}(h:DD E t a=some f)(v:Value)(args:Array Value)(w:World):
 (callMethod (.iface t v) a args).run E.P w=(callFunc f (#[v]++args)).run E.P w:=by unfold DD at h;cases g:E.sym<;>rw[g]at h<;>cases h
def i4(E:Env)(ρ:Operand->Lj)(op:Op):Option (FuncId×Lh):=
 match op with
 | .call c=>(match c.callee with
   | .value f=>(match ρ f,mapO ρ c.args.toList with
     |some (.func (.func g) ⟨first⟩ ⟨cap⟩),some as=>some (g,first++as++cap)
     |_,_=>none)
   | .invoke r name=>(match ρ r,mapO ρ c.args.toList with
     |some (.iface t v),some as=>(match DD E t name with|some g=>some (g,v::as)|none=>none)
     |_,_=>none)
   |_=>none)
 |_=>none
theorem ss(R:E.Ok)(p:OpR σ ρ ρ'){g:FuncId}{args:Lh}
 (h:i4 E ρ o.op=some (g,args)):∃ l,VRs σ args l/\∀ w:World,(execOp ρ' o).run E.P w=(callFunc g ⟨l⟩).run E.P w:=by
 unfold i4 at h;unfold execOp;split at h;rename_i c D;rw[D];split at h;rename_i f J;split at h;rename_i Q first N as H q
 simp only[osI,Hs]at h;obtain⟨rfl,rfl⟩:=h;have u:=p f _ H;obtain⟨a,k,X,I,K⟩:∃ a k,ρ' f=.func (.func Q) ⟨a⟩ ⟨k⟩/\VRs σ first a/\VRs σ N k:=by
  generalize ρ' f=y at u;cases u with
  |func Z Y z U=>exact⟨_,_,rfl,z,U⟩
 refine⟨a++c.args.toList.map ρ'++k,(I.append (eC p q)).append K,λw=>?_⟩;simp only[resolve,J,X,Deferred.ofValue,HB,Ih,Hv,invoke];congr 2;apply H9.1;simp;cases h;rename_i r O J;split at h;rename_i t v as S q;split at h;rename_i Q H;simp only[osI,Hs]at h;obtain⟨rfl,rfl⟩:=h;have s:=p r _ S;obtain⟨v',M,C⟩:∃ v',ρ' r=.iface t v'/\VR σ v v':=by
  generalize ρ' r=y at s;cases s with
  |iface _ z=>exact⟨_,rfl,z⟩
 refine⟨v'::c.args.toList.map ρ',.cons C (eC p q),λw=>?_⟩;have V:(#[Value.iface t v']++c.args.map ρ')[0]? =some (.iface t v'):=by rw[JG];rfl
 have z:(#[Value.iface t v']++c.args.map ρ').extract 1 (#[Value.iface t v']++c.args.map ρ').size=c.args.map ρ':=by grind
 simp only[resolve,J,M,HB,Ih,Hv,invoke,V,z];rw[DC R H];congr 2;apply H9.1;simp;cases h;cases h;cases h;cases h
theorem dH(a:E.Ok){f:FuncId}{g:Func}(h:E.fn f=some g)(args:Array Value)(w:World):(callFunc f args).run E.P w=.ok (.enter f args) w:=by obtain⟨l,k⟩:=a.fnb f g h;unfold callFunc;rw[HB,run_program,Hv,a.fn f g h];simp only[k,l,IR,I2];rfl
def ev(E:Env)(F:T Value):Operand->Lj
 | .tmp t=>F.get t
 | .const v=>bif flat v then some v else none
 | .global g=>(match E.gl g with|some cs=>some (plc cs)|none=>none)
 | .func f=>some (.func (.func f) ⟨[]⟩ ⟨[]⟩)
def Glob(E:Env)(σ:Sig):Prop:=∀ g cs,E.gl g=some cs->cs.all scal=true/\0<cs.length/\∃ (c:Array Value) (e:TypeId) (fz:Nat×Nat),σ.ro g=some (.cells c e fz)/\c.toList.take cs.length=cs
theorem Glob.sub(h:Glob E σ)(a:σ.sub σ'):Glob E σ':=λg r f=>by obtain⟨q,p,c,e,fz,l,k⟩:=h g r f;exact⟨q,p,c,e,fz,a.ro _ _ l,k⟩
theorem AX{g:Nat}{cs:Lh}{c:Array Value}(f:cs.all scal=true)(k:0<cs.length)(h:σ.ro g=some (.cells c e fz))(p:c.toList.take cs.length=cs):VR σ (plc cs) (.pointer (some ⟨g,0,none⟩)):=by
 have r:∀ x∈cs,x.cells= #[x]:=λx a=>by have:=HV.1 f x a;cases x<;>first|rfl|simp[scal]at this
 have q:ap cs=cs:=by
  clear k p f;induction cs with
  |nil=>rfl
  |cons x l s=>grind [aU]
 have:=VR.datP (σ:=σ) (b:=g) (o:=0) (sz:=1) (i:=0) (j:=0) (els:=cs) h (λx a=>by rw[r x a];rfl) k (by omega) (by rw[q,JH,Nat.mul_one,p];exact bt f σ)
 exact this
def slot(F:T Value)(t:Nat):Lj:=F.get t
def VO(σ:Sig)(o:Lj)(a:Value):Prop:=∀ v,o=some v->VR σ v a
theorem VO.mono(a:σ.sub σ'){o:Lj}(h:VO σ o v'):VO σ' o v':=λv e=>(h v e).mono a
structure FR (σ:Sig) (F:T Value) (n:Nat) (a:Act):Prop where
 size:a.tmps.size=n
 val:∀ t,VO σ (slot F t) (a.tmps.getD t undef)
 defers:a.defers=[]
theorem FR.mono(f:σ.sub σ'){a:Act}(h:FR σ F n a):FR σ' F n a:=⟨h.size,λt=>(h.val t).mono f,h.defers⟩
theorem oC(p:Glob E σ){a:Act}(l:∀ t,VO σ (slot F t) (a.tmps.getD t undef)):OpR σ (ev E F) a.eval:=by
 intro x v h;cases x with
 |tmp t=>exact l t v h
 |const u=>simp only[ev]at h;cases k:flat u;rw[k]at h;simp at h;rw[k]at h;simp only[C',osI]at h;subst h;exact bI k σ
 | global g=>
  simp only[ev]at h;cases k:E.gl g with
  |none=>rw[k]at h;simp at h
  |some C=>rw[k]at h;cases h;obtain⟨z,s,c,e,fz,r,q⟩:=p g C k;exact AX z s r q
 |func f=>simp only[ev,osI]at h;subst h;exact .func _ rfl .nil .nil
def put(n:Nat)(F:T Value)(dst:Option Tmp)(v:Value):Option (T Value):=
 match dst with
 |none=>some F
 |some d=>bif Nat.blt d n then T.set FU F d v else none
theorem mc{p:T Value}{a:Act}{g:Option Tmp}(h:FR σ F n a)(q:VR σ v v')(f:put n F g v=some p):FR σ p n (a.put g v'):=by
 cases g with
 |none=>simp only[put,osI]at f;subst f;exact h
 |some d=>
 simp only[put]at f;cases l:Nat.blt d n;rw[l]at f;simp at f;rw[l]at f;simp only[C']at f;rw[blt_eq,HL]at l;have r:=H6 f;refine⟨by simp[Act.put,h.size],λt=>?_,h.defers⟩;intro u k;unfold slot at k;rw[r]at k;by_cases e:t=d;subst e;simp only[Jt,osI]at k;subst k;simp only[Act.put];have:(a.tmps.setIfInBounds t v').getD t undef=v':=by rw[H8,Jl];simp[h.size,l]
 rw[this];exact q;rw[Hm e]at k;have:(a.tmps.setIfInBounds d v').getD t undef=a.tmps.getD t undef:=by rw[H8,Jl,Hm (λs=>e s.symm),H8]
 simp only[Act.put];rw[this];exact h.val t u k
def ct (ops:List Oper)(F:T Value)(o:Oper):Option Bool:=
 match o.guard with
 |none=>some true
 | some (j,want)=>(match nth ops j with
   | some oj=>(match oj.dst with
     | some d=>(match slot F d with
       |some (.bool b)=>some (match b,want with|true,true=>true|false,false=>true|_,_=>false)
       |some _=>some false
       |none=>none)
     |none=>some false)
   |none=>some false)
theorem VR.bool_iff(h:VR σ v v')(b:Bool):v=.bool b↔v'=.bool b:=by cases h<;>simp
theorem lS{ops:Array Oper}{a:Act}(C:∀ j f k d,o.guard=some (j,f)->ops[j]? =some k->k.dst=some d->VO σ (slot F d) (a.tmps.getD d undef)){r:Bool}(g:ct ops.toList F o=some r):
 Region.wanted o (yielded ops a.tmps)=r:=by
 unfold ct at g;unfold Region.wanted;cases s:o.guard with
 |none=>grind
 |some z=>
 obtain⟨j,f⟩:=z;rw[s]at g;have H:ops.toList[j]? =ops[j]?:=by simp
 simp only[yielded,aP,H]at g ⊢;cases q:ops[j]? with
 |none=>grind
 |some k=>
 simp only[q]at g;simp only[Jm];cases hd:k.dst with
 |none=>grind
 |some d=>
 simp only[hd]at g;simp only[Jm];have h:=C j f k d s q hd;have l:∀ b,a.tmps[d]? =some (.bool b)↔a.tmps.getD d undef=.bool b:=by
  intro b;rw[H8];cases I:a.tmps[d]? with
  |none=>simp[undef]
  |some x=>simp
 cases p:slot F d with
 |none=>simp[p]at g
 |some u=>
 have D:=λb=>VR.bool_iff (h u p) b;cases u with
 |bool b=>simp only[p,osI]at g;subst g;rw[(l b).2 ((D b).1 rfl)];cases b<;>cases f<;>rfl
 |_=>grind
theorem _root_.Go.HW:type_of% @List.length_cons:=@List.length_cons
abbrev _root_.Go.JJ:=@List.range'_succ
abbrev bR:=FuncId->Lh->AH->Option (Value×AH)
def fJ(E:Env)(call:bR):Prop:=∀ f args A v A',call f args A=some (v,A')->∀ σ w args',Rel E.P σ A w->Glob E σ->VRs σ args args'->
 Calls E.P f ⟨args'⟩ w (λe w'=>∃ v' σ',e=.returned v'/\VR σ' v v'/\Rel E.P σ' A' w'/\Ext σ A w σ' A' w')
def Does(E:Env)(σ:Sig)(A:AH)(w:World)(o:Oper)(a:Act)(v:Value)(A':AH):Prop:=
 ∀(K:Act->World->Prop) (Q:Exit->Act->World->Prop),(∀v' w' σ',VR σ' v v'->Rel E.P σ' A' w'->Ext σ A w σ' A' w'->K (a.put o.dst v') w')->o.wp E.P a w K Q
theorem aW{a:Act}(G:Good E.P σ A w ((execOp a.eval o).run E.P w) v A'):Does E σ A w o a v A':=by intro K Q g;obtain⟨r,v',f,σ',q,p,l,k,h⟩:=G;unfold Oper.wp;rw[q];rcases p with rfl|⟨rfl,rfl⟩;exact g v' f σ' l k h;exact g undef f σ' l k h
theorem lF(g:E.Ok)(R:Rel E.P σ A w){a:Act}(f:OpR σ ρ a.eval)(h:quiet E A ρ o.type o.op=some v):Does E σ A w o a v A:=by grind [qW,aW,Good.value,Ext.refl]
def c7 (call:bR)(E:Env)(A:AH)(ρ:Operand->Lj)(op:Op):Option (Value×AH):=
 match effA E A ρ op with
 |some r=>some r
 | none =>(match i4 E ρ op with
   | some (g,args)=>(match E.fn g with
     |some _=>call g args A
     | none=>(match E.ext g with
       |some x=>x args A
       |none=>none))
   |none=>none)
theorem sw(q:E.Ok){l:bR}(H:fJ E l)(R:Rel E.P σ A w)(D:Glob E σ){a:Act}(r:OpR σ ρ a.eval)
 (h:c7 l E A ρ o.op=some (v,A')):Does E σ A w o a v A':=by unfold c7 at h;split at h;grind [osI,aW,oE];split at h;rename_i g p u;obtain⟨f,z,k⟩:=ss q r u;split at h;rename_i N s;intro K Q M;unfold Oper.wp;rw[k,dH q s];show Calls E.P g ⟨f⟩ w _;refine(H g p A v A' h σ w f R D z).mono λe I J=>?_;grind;split at h;rename_i x C;refine aW ?_;rw[k];exact q.ext g x p A v A' C h σ w f R z;cases h;cases h
theorem lG(q:E.Ok)(R:Rel E.P σ A w){a:Act}(l:OpR σ ρ a.eval){ob:AObj}{fv:Nat->Value}
 (h:bT E ρ o.op=some (ob,fv)) (g:cL A ob=some A'):Does E σ A w o a (fv A.next) A':=by
 obtain⟨k,z,u,s,r,C⟩:=nu q l h;unfold cL at g;split at g;rename_i t p;cases g;have f:σ A.next=none:=R.fresh _ (Hw _)
 exact aW (Good.value (u w) (r (upd σ A.next (w.heap.size,0,0)) A.next w.heap.size 0 bG) (R.alloc p f (I9 _) (Jb _) (s _ (ch f)) rfl) (Ext.alloc R p (Jb _) (ob:=k) rfl rfl rfl rfl));cases g
def opA(call:bR)(E:Env)(A:AH)(ρ:Operand->Lj)(ty:TypeId)(op:Op):Option (Value×AH):=
 match quiet E A ρ ty op with
 |some v=>some (v,A)
 | none=>(match bT E ρ op with
   |some (ob,fv)=>(match cL A ob with|some A'=>some (fv A.next,A')|none=>none)
   |none=>c7 call E A ρ op)
theorem Gr(k:E.Ok){f:bR}(s:fJ E f)(R:Rel E.P σ A w)(r:Glob E σ){a:Act}(g:OpR σ ρ a.eval)
 (h:opA f E A ρ o.type o.op=some (v,A')):Does E σ A w o a v A':=by unfold opA at h;split at h;rename_i u p;cases h;exact lF k R g p;split at h;rename_i z C l;split at h;rename_i D q;cases h;exact lG k R g l q;cases h;exact sw k s R r g h
def kw(call:bR)(E:Env)(ops:List Oper)(n:Nat):List Oper->T Value->AH->Option (T Value×AH)
 | [],F,A=>some (F,A)
 | o ::rest,F,A=>
   match ct ops F o with
   | some true=>(match opA call E A (ev E F) o.type o.op with
     |some (v,A')=>(match put n F o.dst v with|some F'=>kw call E ops n rest F' A'|none=>none)
     |none=>none)
   |some false=>(match put n F o.dst undef with|some F'=>kw call E ops n rest F' A|none=>none)
   |none=>none
theorem jq{E:Env}(u:E.Ok){p:bR}(C:fJ E p){ops:Array Oper}{n:Nat}{Q:Exit->Act->World->Prop}:∀ (l:List Oper) (k:Nat) (F q:T Value) (A A':AH) (σ:Sig) (a:Act) (w:World),
 kw p E ops.toList n l F A=some (q,A')->(∀(i:Nat),i<l.length->ops[k+i]? =l[i]?)->Rel E.P σ A w->Glob E σ->FR σ F n a->
 (∀a' w' σ',FR σ' q n a'->Rel E.P σ' A' w'->Ext σ A w σ' A' w'->Q .normal a' w')->wpOps E.P ops Q (List.range' k l.length) a w
 | [],k,F,q,A,A',σ,a,w,h,_,R,hg,hF,hQ=>by simp only[kw,osI,Hs]at h;obtain⟨rfl,rfl⟩:=h;exact hQ a w σ hF R (Ext.refl _ _ _)
 | o::rest,k,F,q,A,A',σ,a,w,h,hl,R,hg,hF,hQ=>by
  have U:ops[k]? =some o:=by have:=hl 0 (by simp);simpa using this
  have H:∀ (i:Nat),i<rest.length->ops[k+1+i]? =rest[i]?:=λi Y=>by have:=hl (i+1) (by simp;omega);grind
  rw[HW,JJ,wpOps_cons];unfold wpOp;simp only[U];simp only[kw]at h;cases r:ct ops.toList F o with
  |none=>rw[r]at h;cases h
  |some b=>
  rw[lS (σ:=σ) (F:=F) (λ_ _ _ d _ _ _=>hF.val d) r];cases b with
  |true=>rw[r]at h;simp only at h;rw[Ht rfl];left;split at h;rename_i v X z;split at h;rename_i D f;refine Gr u C R hg (oC hg hF.val) z _ _ λv' w' σ' S O I=>?_;have g:=Ext.sub R I;exact jq u C rest (k+1) D q X A' σ' _ w' h H O (hg.sub g) (mc (hF.mono g) S f) λV J s N M K=>hQ V J s N M (I.trans K);cases h;cases h
  |false=>rw[r]at h;simp only at h;rw[Hm (by simp)];split at h;rename_i D f;exact jq u C rest (k+1) D q A A' σ _ w h H R hg (mc hF (cv σ) f) hQ;cases h
def gO(E:Env):Op->Bool
 | .store .. | .mapUpdate .. | .insert .. | .range .. | .next .. =>true
 | .convert _ d _=>(match und E d with|some (.slice _)=>true|_=>false)
 | .call c=>(match c.callee with| .builtin b=>(match b with| .len| .max| .min| .cap| .unsafeSliceData=>false|_=>true)|_=>true)
 |_=>false
def bH(a:Op):Lg:=a.operands.toList.filterMap fun| .tmp t=>some t|_=>none
def rho(E:Env)(F:T Value)(ts:Lg):Operand->Lj
 | .tmp t=>bif ts.any (Nat.beq t)then F.get t else none
 |x=>ev E F x
theorem Da(r:Glob E σ){a:Act}{ts:Lg}(p:∀ t,t∈ts->VO σ (slot F t) (a.tmps.getD t undef)):OpR σ (rho E F ts) a.eval:=by
 intro x v h;cases x with
 | tmp t=>
  simp only[rho]at h;cases l:ts.any (Nat.beq t);rw[l]at h;simp at h;rw[l]at h;simp only[C']at h;have q:t∈ts:=by simp_all
  exact p t q v h
 |const u=>simp only[rho,ev]at h;cases k:flat u;rw[k]at h;simp at h;rw[k]at h;simp only[C',osI]at h;subst h;exact bI k σ
 | global g=>
  simp only[rho,ev]at h;cases k:E.gl g with
  |none=>rw[k]at h;simp at h
  |some H=>rw[k]at h;cases h;obtain⟨D,C,c,e,fz,z,s⟩:=r g H k;exact AX D C z s
 |func f=>simp only[rho,ev,osI]at h;subst h;exact .func _ rfl .nil .nil
def fX(ms:Lg):List Edge->Nat
 | []=>0
 |e::l=>bif Region.binds .any e then(1 <<< e.on) ||| ((nth ms e.on).getD 0 ||| fX ms l)else fX ms l
def fj:List Oper->Lg->Lg
 | [],acc=>acc
 |o::l,acc=>fj l (acc++[fX acc o.after.toList])
def bit(a:Lg)(i j:Nat):Bool:=((nth a i).getD 0).testBit j
theorem lc:∀ (l:List Oper) (acc:Lg),∃r,fj l acc=acc++r/\r.length=l.length/\∀ (i:Nat) o,l[i]? =some o->r[i]? =some (fX (acc++r.take i) o.after.toList)
 | [],acc=>⟨[],by simp[fj]⟩
 | o::l,acc=>by
  obtain⟨r,g,f,k⟩:=lc l (acc++[fX acc o.after.toList]);refine⟨fX acc o.after.toList::r,by simp[fj,g],by simp[f],λi h a=>?_⟩;cases i with
  |zero=>simp at a;subst a;simp
  |succ i=>grind
theorem dQ{q:Lg}{j:Nat}:∀ {l:List Edge},(fX q l).testBit j=true->∃ e∈l,Region.binds .any e=true/\(e.on=j∨((nth q e.on).getD 0).testBit j=true)
 | [],h=>by simp[fX]at h
 | e ::l,h=>by
  simp only[fX]at h;cases f:Region.binds .any e with
  | true=>
   rw [f]at h;simp only[C',Nat.testBit_or,Iu]at h;rcases h with h|h|h;have:e.on=j:=by
    rw[Nat.testBit_shiftLeft]at h;simp only[f',HL]at h;obtain⟨g,a⟩:=h;have:j-e.on=0:=by
     cases r:j-e.on with
     |zero=>rfl
     |succ n=>rw[r]at a;simp[Nat.testBit_succ]at a
    omega
   exact⟨e,by simp,f,.inl this⟩;exact⟨e,by simp,f,.inr h⟩;obtain⟨p,g,a,k⟩:=dQ h;exact⟨p,by simp[g],a,k⟩
  |false=>rw[f]at h;simp only[HJ]at h;obtain⟨p,g,a,k⟩:=dQ h;exact⟨p,by simp[g],a,k⟩
def n8(E:Env)(ops:Array Oper)(ms:Lg)(i j:Nat)(oi oj:Oper):Bool:=
 (match oj.dst with
  | some t=>(!(oi.looksAt ops).contains t||(Nat.beq i j||(bif Nat.blt j i then bit ms i j else bit ms j i)))&&
    (match oi.dst with|some s=> !(Nat.beq s t)||(!(Nat.blt i j)||bit ms j i)|none=>true)
  |none=>true)&&
 (!(gO E oi.op&&(gO E oj.op&&Nat.blt i j))||bit ms j i)
def nU(E:Env)(ops:Array Oper):Bool:=
 let l:=ops.toList
 let ms:=fj l []
 l.zipIdx.all λ(oi,i)=>(oi.after.toList.all λe=> !(Region.binds .any e)||Nat.blt e.on i)&&l.zipIdx.all λ(oj,j)=>n8 E ops ms i j oi oj
structure SF (E:Env) (ops:Array Oper) (ms:Lg):Prop where
 closed:∀ (L:Nat->Prop),(∀i o,ops[i]? =some o->L i->∀ e∈o.after.toList,Region.binds .any e=true->L e.on)->∀ i,i<ops.size->L i->∀ j,bit ms i j=true->L j
 anc:∀ (L:Nat->Prop),(∀i o,ops[i]? =some o->L i->∀ e∈o.after.toList,Region.binds .any e=true->L e.on)->∀ i o,ops[i]? =some o->(∀e∈o.after.toList,Region.binds .any e=true->L e.on)->∀ j,bit ms i j=true->L j
 back:∀ i o,ops[i]? =some o->∀ e∈o.after.toList,Region.binds .any e=true->e.on<i
 low:∀ i,i<ops.size->∀ j,bit ms i j=true->j<i
 temps:∀ i j oi oj t,ops[i]? =some oi->ops[j]? =some oj->oj.dst=some t->t∈oi.looksAt ops->i≠j->(j<i->bit ms i j=true)/\(i<j->bit ms j i=true)
 dsts:∀ i j oi oj t,ops[i]? =some oi->ops[j]? =some oj->oi.dst=some t->oj.dst=some t->i<j->bit ms j i=true
 effs:∀ i j oi oj,ops[i]? =some oi->ops[j]? =some oj->gO E oi.op=true->gO E oj.op=true->i<j->bit ms j i=true
theorem sf_of{ops:Array Oper}(h:nU E ops=true):SF E ops (fj ops.toList []):=by
 unfold nU at h;simp only[HV]at h;have N:∀ i o,ops[i]? =some o->(o,i)∈ops.toList.zipIdx:=by grind
 obtain⟨r,X,m2,m3⟩:=lc ops.toList [];simp only[List.nil_append]at X m3;have I:∀ i o,ops[i]? =some o->(nth (fj ops.toList []) i).getD 0=fX (r.take i) o.after.toList:=by grind [aP]
 have f:∀ i o,ops[i]? =some o->∀ e∈o.after.toList,Region.binds .any e=true->e.on<i:=by intro i o p e C s;have:=h _ (N i o p);simp only[f',HV]at this;have:=this.1 e C;simp_all
 have u:∀ i j,j<i->(nth (r.take i) j).getD 0=(nth (fj ops.toList []) j).getD 0:=by intro i j Q;rw[X,aP,aP,Io,Ht Q]
 have k:∀ i j H D,ops[i]? =some H->ops[j]? =some D->n8 E ops (fj ops.toList []) i j H D=true:=by grind
 have g:∀ (L:Nat->Prop),(∀i o,ops[i]? =some o->L i->∀ e∈o.after.toList,Region.binds .any e=true->L e.on)->∀ i,i<ops.size->L i->∀ j,bit (fj ops.toList []) i j=true->L j:=by
  intro L V i;induction i using Nat.strongRecOn with
  |_ i O=>
  intro p U j s;have J:ops[i]? =some ops[i]:=by simp[p]
  unfold bit at s;rw[I i _ J]at s;obtain⟨e,C,l,q⟩:=dQ s;have a:=f i _ J e C l;have z:=V i _ J U e C l;rcases q with rfl|q;exact z;rw[u i e.on a]at q;exact O e.on a (by omega) z j q
 have K:∀ i,i<ops.size->∀ j,bit (fj ops.toList []) i j=true->j<i:=by
  intro i;induction i using Nat.strongRecOn with
  |_ i O=>
  intro p j s;have J:ops[i]? =some ops[i]:=by simp[p]
  unfold bit at s;rw[I i _ J]at s;obtain⟨e,C,l,q⟩:=dQ s;have a:=f i _ J e C l;rcases q with rfl|q;exact a;rw[u i e.on a]at q;have:=O e.on a (by omega) j q;omega
 refine⟨g,?_,f,K,?_,?_,?_⟩;intro L V i o p Z j s;unfold bit at s;rw[I i _ p]at s;obtain⟨e,C,l,q⟩:=dQ s;have a:=f i _ p e C l;have z:=Z e C l;have Y:i<ops.size:=by grind
 rcases q with rfl|q;exact z;rw[u i e.on a]at q;exact g L V e.on (by omega) z j q;intro i j H D t p M hd ht a0;have:=k i j H D p M;simp only[n8,hd,f',Iu]at this;grind [absurd,Ho,Nat.blt,blt_eq];· intro i j H D t p M S R a;have:=k i j H D p M;simp only[n8,R,S,f',Iu]at this;have:=this.1.2;rcases this with h|h|h;simp at h;all_goals grind [blt_eq]
 intro i j H D p M ei ej a;have:=k i j H D p M;simp only[n8,f',Iu]at this;grind [Nat.blt,blt_eq]
def fvl(ops:Array Oper)(vs:Lh)(L:Nat->Bool)(F0:T Value)(t:Nat):Nat->Lj
 |0=>slot F0 t
 |k+1=>if L k=true/\(ops[k]?).bind (·.dst)=some t then some ((vs[k]?).getD undef)else fvl ops vs L F0 t k
theorem jo{ops:Array Oper}{vs:Lh}{L:Nat->Bool}{a:T Value}{t:Nat}{i:Nat}:∀ k,i<=k->(∀j,i<=j->j<k->¬ (L j=true/\(ops[j]?).bind (·.dst)=some t))->fvl ops vs L a t k=fvl ops vs L a t i
 |0,h,_=>by grind
 |k+1,h,hj=>by by_cases e:i=k+1;subst e;rfl;rw[fvl,Hm (hj k (by omega) (by omega))];exact jo k (by omega) λj f g=>hj j f (by omega)
theorem gX{ops:Array Oper}{vs:Lh}{L a:Nat->Bool}{f:T Value}{t:Nat}:∀ k,(∀j,j<k->(ops[j]?).bind (·.dst)=some t->L j=a j)->fvl ops vs L f t k=fvl ops vs a f t k
 |0,_=>rfl
 |k+1,h=>by simp only[fvl];rw[gX k λj g=>h j (by omega)];grind
theorem _root_.Go.J6:type_of% @Option.map_eq_some_iff:=@Option.map_eq_some_iff
theorem _root_.Go.JS:type_of% @List.mem_of_find?_eq_some:=@List.mem_of_find?_eq_some
def vis(A:AH)(B:Nat):Option AObj:=
 match A.t.get B with
 |some o=>bif o.here then some o else none
 |none=>none
theorem vis_some{o:AObj}:vis A B=some o↔A.t.get B=some o/\o.here=true:=by unfold vis;grind
abbrev Al:=Nat×Nat×AObj
def bX(m:Nat):List Al->AH->Option AH
 | [],G=>some G
 | (i,id,ob)::r,G=>
   match bX m r G with
   | some H=>bif m.testBit i then(match vis H id with
     |some _=>some H
     |none=>(match T.set FU H.t id ob with|some t=>some ⟨t,H.next⟩|none=>none))else some H
   |none=>none
theorem fQ{m:Nat}:∀ {a:List Al}{G H:AH},bX m a G=some H->(∀x∈a,x.2.2.here=true)->
 H.next=G.next/\(∀B o,vis H B=some o->vis G B=some o∨(vis G B=none/\∃ i,(i,B,o)∈a/\m.testBit i=true))/\
 (∀B o,vis G B=some o->vis H B=some o)/\(∀i B o,(i,B,o)∈a->m.testBit i=true->∃ p,vis H B=some p)
 | [],G,H,h,_=>by simp only[bX,osI]at h;grind
 | (i,id,ob)::r,G,H,h,hh=>by
  simp only[bX]at h;cases g:bX m r G with
  |none=>simp[g]at h
  |some l=>
  simp only[g]at h;obtain⟨s1,K,J,I⟩:=fQ g (λx q=>hh x (by simp[q]));cases D:m.testBit i with
  |false=>grind
  |true=>
  rw[D]at h;simp only[C']at h;cases s:vis l id with
  |some M=>grind
  |none=>
  simp only[s]at h;split at h
  · rename_i t u;cases h;have C:=H6 u;have f:∀ B,vis ⟨t,l.next⟩ B=if B=id then some ob else vis l B:=by intro B;unfold vis;simp only[C];by_cases e:B=id;all_goals simp_all
    refine⟨s1,λB o k=>?_,λB o k=>?_,λj B o N z=>?_⟩;rw[f]at k;by_cases e:B=id;rw[Ht e,osI]at k;grind [vis];grind;all_goals grind
  cases h
def gf(als:List Al)(G:AH)(L:Nat->Bool)(B:Nat):Option AObj:=
 match vis G B with
 |some o=>some o
 |none=>(als.find? (λx=>Nat.beq x.2.1 B&&L x.1)).map (·.2.2)
structure AlsOk (n0 m:Nat) (als:List Al):Prop where
 id:∀ x∈als,x.2.1=n0+x.1
 lt:∀ x∈als,x.1<m
 own:∀ x∈als,x.2.2.own=true
 uniq:∀ x∈als,∀y∈als,x.1=y.1->x=y
theorem mP{a:List Al}{o:AObj}(h:gf a G L B=some o):vis G B=some o∨(vis G B=none/\∃ i,(i,B,o)∈a/\L i=true):=by unfold gf at h;split at h;grind;rename_i k;rw[J6]at h;obtain⟨y,f,rfl⟩:=h;have g:=List.find?_some f;have l:=JS f;simp only[f']at g;grind [Ho]
theorem km{a:List Al}{o:AObj}(h:vis G B=some o):gf a G L B=some o:=by unfold gf;rw[h]
theorem tW{p:Nat}{a:List Al}(k:AlsOk p m a){o:AObj}(h:(i,B,o)∈a)(r:L i=true)(q:vis G B=none):gf a G L B=some o:=by
 unfold gf;rw[q];simp only;cases g:a.find? (λx=>Nat.beq x.2.1 B&&L x.1)with
 |none=>rw[List.find?_eq_none]at g;have:=g _ h;simp[r]at this
 |some y=>have l:=List.find?_some g;have f:=JS g;simp only[f']at l;have z:=Ho l.1;have u:=k.id y f;have s:=k.id _ h;simp only at s;have:y=(i,B,o):=k.uniq y f _ h (by simp only;omega);subst this;rfl
theorem Fz{a:List Al}{f:Nat->Bool}(h:∀ x∈a,f x.1=L x.1)(B:Nat):gf a G f B=gf a G L B:=by
 unfold gf;have:∀ (l:List Al),(∀x∈l,f x.1=L x.1)->l.find? (λx=>Nat.beq x.2.1 B&&f x.1)=l.find? (λx=>Nat.beq x.2.1 B&&L x.1):=by
  intro l k;induction l with
  |nil=>rfl
  |cons x l g=>grind
 rw[this a h]
structure TR (call:bR) (E:Env) (ops:Array Oper) (ms:Lg) (n n0:Nat) (F0:T Value) (fs:List (T Value)) (vs:Lh) (cs:List AH) (es:Lg) (als:List Al):Prop where
 fs0:fs[0]? =some F0
 row : ∀i o,ops[i]? =some o->∃ F F' v,fs[i]? =some F/\fs[i+1]? =some F'/\vs[i]? =some v/\put n F o.dst v=some F'/\
  ((ct ops.toList F o=some false/\v=undef/\i ∉ es/\(∀x∈als,x.1≠i))∨
   (ct ops.toList F o=some true/\i ∉ es/\(∀x∈als,x.1≠i)/\
    ∀ (e:Nat) G,cs[e]? =some G->(∀(j:Nat) i',es[j]? =some i'->bit ms i i'=true->j<e)->(∀(j:Nat) i',es[j]? =some i'->j<e->bit ms i' i=false)->
      ∃H,bX ((nth ms i).getD 0) als G=some H/\quiet E H (rho E F (bH o.op)) o.type o.op=some v)∨
   (ct ops.toList F o=some true/\i ∉ es/\∃ ob fv,bT E (rho E F (bH o.op)) o.op=some (ob,fv)/\(i,n0+i,ob)∈als/\v=fv (n0+i))∨
   (ct ops.toList F o=some true/\(∀x∈als,x.1≠i)/\∃ (e:Nat),∃G G' H,es[e]? =some i/\cs[e]? =some G/\cs[e+1]? =some G'/\bX ((nth ms i).getD 0) als G=some H/\
    c7 call E H (rho E F (bH o.op)) o.op=some (v,G')/\∀ x∈als,∀ob,vis H x.2.1=some ob->∃ ob',vis G' x.2.1=some ob'))
 es_eff:∀ (j:Nat) i,es[j]? =some i->∃ o,ops[i]? =some o/\gO E o.op=true
 es_inc:∀ (j j':Nat) i i',es[j]? =some i->es[j']? =some i'->j<j'->i<i'
 als_ok:AlsOk n0 ops.size als
 cs_len:cs.length=es.length+1
 cs_next:∀ G∈cs,n0+ops.size<=G.next
structure St (E:Env) (ops:Array Oper) (n n0:Nat) (F0:T Value) (vs:Lh) (cs:List AH) (es:Lg) (als:List Al) (σ0:Sig) (g0:Nat->Option AObj) (w0:World)
 (L:Nat->Bool) (e:Nat) (σ:Sig) (a:Act) (w:World):Prop where
 cl:∀ i o,ops[i]? =some o->L i=true->∀ ed∈o.after.toList,Region.binds .any ed=true->L ed.on=true
 lt:∀ i,L i=true->i<ops.size
 ef:∀ (j:Nat) i,es[j]? =some i->(L i=true↔j<e)
 sz:a.tmps.size=n
 df:a.defers=[]
 fr:∀ t,VO σ (fvl ops vs L F0 t ops.size) (a.tmps.getD t undef)
 free:∀ x∈als,L x.1=false->σ x.2.1=none/\¬ σ.nl x.2.1
 glob:Glob E σ
 rel:∃ G,cs[e]? =some G/\RelG E.P σ (gf als G L) G.next w/\ExtG σ0 g0 n0 w0 σ (gf als G L) G.next w
theorem jN{f:bR}{E:Env}{ops:Array Oper}{u:Lg}{n s:Nat}{r:T Value}{fs:List (T Value)}{vs:Lh}{cs:List AH}{es:Lg}{l:List Al}
 (g:TR f E ops u n s r fs vs cs es l) (t:Nat):∀ (k:Nat) F,k<=ops.size->fs[k]? =some F->slot F t=fvl ops vs (λ_=>true) r t k
 |0,F,_,h=>by rw[g.fs0,osI]at h;subst h;rfl
 | k+1,F,hk,h=>by
  have p:ops[k]? =some ops[k]:=by simp<;>omega
  obtain⟨J,K,v,I,H,D,a,_⟩:=g.row k _ p;rw[H,osI]at h;subst h;have z:=jN g t k J (by omega) I;simp only[fvl,p,Jm,D,JD,true_and];cases hd:(ops[k]'(by omega)).dst with
  |none=>rw[hd]at a;simp only[put,osI]at a;grind
  |some d=>rw[hd]at a;simp only[put]at a;cases q:Nat.blt d n;rw[q]at a;simp at a;rw[q]at a;simp only[C']at a;have C:=H6 a;unfold slot;rw[C];by_cases e:t=d;subst e;simp;rw[Hm e,Hm (by simp;exact λh=>e h.symm)];exact z
theorem s9(ops:Array Oper)(o:Oper){t:Nat}(h:t∈bH o.op):t∈o.looksAt ops:=by unfold Oper.looksAt;exact List.mem_append_left _ h
section
variable {call:bR}{E:Env}{ops:Array Oper}{ms:Lg}{n n0:Nat}{F0:T Value}{fs:List (T Value)}{vs:Lh}{cs:List AH}{es:Lg}{als:List Al}
 {σ0:Sig}{g0:Nat->Option AObj}{w0:World}{L:Nat->Bool}{e:Nat}{σ:Sig}{a:Act}{w:World}{i:Nat}{o:Oper}{F:T Value}
theorem tJ(h:SF E ops ms)(p:TR call E ops ms n n0 F0 fs vs cs es als)(st:St E ops n n0 F0 vs cs es als σ0 g0 w0 L e σ a w)(k:ops[i]? =some o)(u:fs[i]? =some F)(g:L i=false)
 (q:∀ m∈o.after.toList,Region.binds .any m=true->L m.on=true) {t:Nat}(l:t∈o.looksAt ops):VO σ (slot F t) (a.tmps.getD t undef):=by
 have y:i<ops.size:=by grind
 rw[jN p t i F (by omega) u];have f:∀ j,bit ms i j=true->L j=true:=h.anc (λi=>L i=true) st.cl i o k q;have x:fvl ops vs L F0 t ops.size=fvl ops vs L F0 t i:=by
  refine jo ops.size (by omega) λj r c d=>?_;have b:ops[j]? =some ops[j]:=by simp[c]
  rw[b,Jm]at d;by_cases e:i=j;subst e;rw[g]at d;cases d.1;have:=(h.temps i j o _ t k b d.2 l e).2 (by omega);have:=h.closed (λi=>L i=true) st.cl j c d.1 i this;rw[g]at this;cases this
 have v:fvl ops vs L F0 t i=fvl ops vs (λ_=>true) F0 t i:=by
  refine gX i λj s hd=>?_;have b:ops[j]? =some (ops[j]'(by omega)):=by simp<;>omega
  rw[b,Jm]at hd;exact f j ((h.temps i j o _ t k b hd l (by omega)).1 s)
 rw[<-v,<-x];exact st.fr t
theorem im(m:SF E ops ms)(st:St E ops n n0 F0 vs cs es als σ0 g0 w0 L e σ a w)(p:ops[i]? =some o)(k:L i=false){v v':Value}(x:vs[i]? =some v){σ':Sig}(b:σ.sub σ')(s:VR σ' v v')
 (A:∀ d,o.dst=some d->d<n) (t:Nat):VO σ' (fvl ops vs (λj=>decide (j=i)||L j) F0 t ops.size) ((a.put o.dst v').tmps.getD t undef):=by
 have D:i<ops.size:=by grind
 by_cases e:o.dst=some t;have l:fvl ops vs (λj=>decide (j=i)||L j) F0 t ops.size=fvl ops vs (λj=>decide (j=i)||L j) F0 t (i+1):=by
  refine jo ops.size (by omega) λj y f r=>?_;have c:ops[j]? =some ops[j]:=by simp[f]
  rw[c,Jm]at r;have h:L j=true:=by grind
  have:=m.dsts i j o _ t p c e r.2 (by omega);have:=m.closed (λi=>L i=true) st.cl j f h i this;rw[k]at this;cases this
 rw[l,fvl,Ht ⟨by simp,by rw[p,Jm,e]⟩,x];have g:=A t e;have:(a.put o.dst v').tmps.getD t undef=v':=by rw[e];simp only[Act.put];rw[H8,Jl];simp[st.sz,g]
 rw[this];intro u B;grind
 · have l:fvl ops vs (λj=>decide (j=i)||L j) F0 t ops.size=fvl ops vs L F0 t ops.size:=by refine gX ops.size λj C z=>?_;by_cases G:j=i;all_goals grind
   rw[l];have:(a.put o.dst v').tmps.getD t undef=a.tmps.getD t undef:=by
    cases q:o.dst with
    |none=>rfl
    |some d=>simp only[Act.put];simp_all
   rw[this];exact(st.fr t).mono b
end
end
end Go.AM
