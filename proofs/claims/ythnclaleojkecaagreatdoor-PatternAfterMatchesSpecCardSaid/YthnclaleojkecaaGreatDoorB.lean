/- A part of the proof. -/
import Derived.Test.YthnclaleojkecaaGreatDoorA
import Derived.Laws.StructEq
import Derived.Lib.UnsafeStr
import Derived.Deep.AppendSrc
import Derived.Deep.Upon
import Derived.Room.Entries
import Derived.Laws.MakeOwn
import Derived.Laws.AppendOwn
set_option linter.unusedVariables false
set_option linter.unusedSimpArgs false
namespace Go.AM
noncomputable section
abbrev _root_.Go.Gr:=@List.length_append
abbrev _root_.Go.Je:=@Nat.succ_mul
abbrev _root_.Go.Ib:=@Array.length_toList
abbrev _root_.Go.IK:=@List.drop_drop
abbrev _root_.Go.IE:=@List.take_of_length_le
abbrev _root_.Go.Hj:=@List.drop_eq_getElem_cons
abbrev _root_.Go.Gy:=@List.getElem_mem
abbrev _root_.Go.HR:=@Bool.or_eq_false_iff
abbrev _root_.Go.IL:=@Bool.not_eq_false'
abbrev _root_.Go.Gs:=@Int.toNat_natCast
abbrev _root_.Go.Jp:=@Option.map_none
abbrev _root_.Go.GY:=@List.eq_nil_of_length_eq_zero
abbrev _root_.Go.H6:=@List.mem_of_mem_take
abbrev _root_.Go.H7:=@List.mem_of_mem_drop
abbrev _root_.Go.Hn:=@Nat.mul_le_mul_right
abbrev _root_.Go.Iq:=@List.length_nil
abbrev _root_.Go.IF:=@Nat.zero_le
abbrev _root_.Go.Ir:=@Array.getElem?_toList
variable {A A' G:AH}{o2:AObj}{ts:Array TypeId}{as:Array Value}{E:Env}{c' els news tl vs vs':Lh}{B b c d f i j lo m n sz:Nat}{L:Nat->Bool}{fz:Nat×Nat}{o:Oper}{ρ:Operand->Lj}{ρ':Operand->Value}{P:Program}{σ σ':Sig}{F:T Value}{e t ty:TypeId}{a' s' v v' x x' y y':Value}{w:World}
def symI(op:BinOp)(k:IntKind)(x y:Int):Lj:=
 match op with
 | .add=>some (.int k (k.wrap (x+y)))
 | .sub=>some (.int k (k.wrap (x-y)))
 | .mul=>some (.int k (k.wrap (x*y)))
 | .quo=>bif decide (y=0)then none else some (.int k (k.wrap (x.tdiv y)))
 | .rem=>bif decide (y=0)then none else some (.int k (x.tmod y))
 | .and=>some (.int k (k.wrap (BitVec.ofInt k.bits x &&& BitVec.ofInt k.bits y).toNat))
 | .or=>some (.int k (k.wrap (BitVec.ofInt k.bits x ||| BitVec.ofInt k.bits y).toNat))
 | .xor=>some (.int k (k.wrap (BitVec.ofInt k.bits x ^^^ BitVec.ofInt k.bits y).toNat))
 | .andNot=>some (.int k (k.wrap (BitVec.ofInt k.bits x &&& ~~~ BitVec.ofInt k.bits y).toNat))
 | .eql=>some (.bool (decide (x=y)))
 | .neq=>some (.bool (!decide (x=y)))
 | .lss=>some (.bool (decide (x<y)))
 | .leq=>some (.bool (decide (x<=y)))
 | .gtr=>some (.bool (decide (y<x)))
 | .geq=>some (.bool (decide (y<=x)))
 | .shl=>none
 | .shr=>none
def nL(op:BinOp)(k:IntKind)(x:Int)(k':IntKind)(y:Int):Lj:=
 match op with
 | .shl=>bif decide (y<0)then none else some (.int k (k.wrap (x*2 ^ (min y.toNat k.bits))))
 | .shr=>bif decide (y<0)then none else some (.int k (x.fdiv (2 ^ (min y.toNat k.bits))))
 |op=>bif dn k k' then symI op k x y else none
theorem us{p:BinOp}{x y:Operand}{k q:IntKind}{a b:Int}(h:nL p k a q b=some v):
 (do eqGuard p t x y (.int k a) (.int q b);binOp p t (.int k a) (.int q b)).run P w=.ok v w/\scal v=true:=by
 simp only[GH,gc,GC];have r:∀ p,p≠ .shl->p≠ .shr->(bif dn k q then symI p k a b else none)=some v->(binOp p t (.int k a) (.int q b)).run P w=.ok v w/\scal v=true:=by
  intro p z u l;cases s:dn k q with
  |false=>rw[s]at l;simp at l
  |true=>
  rw[s]at l;simp only[D']at l;obtain rfl:k=q:=by simpa[dn]using s
  unfold symI at l;split at l<;>try (exact absurd rfl ‹_›)
  all_goals first
   | (cases g:decide (b=0)with
      |true=>simp only[g,D']at l;cases l
      | false=>
        simp only[g,GN,osI]at l
        subst l
        have g:b≠0:=by simpa using g
        exact⟨by simp[binOp,Op.intDiv,g],rfl⟩)
   |(cases l;refine⟨?_,rfl⟩;simp[binOp,Op.intArith,Op.intBits,Op.intCmp,bne];done)
   |(cases l;refine⟨?_,rfl⟩;simp[binOp,Op.intArith,Op.intBits,Op.intCmp,bne];first|rfl|exact fP _ _)
   |skip
 unfold nL at h;split at h;cases g:decide (b<0)with
 |true=>simp only[g,D']at h;cases h
 | false=>
  simp only[g,GN,osI]at h;subst h;have g:¬ b<0:=by simpa using g
  exact⟨by simp only[binOp,Op.shift];rw[C' g];rfl,rfl⟩
 cases g:decide (b<0)with
 |true=>simp only[g,D']at h;cases h
 | false=>
  simp only[g,GN,osI]at h;subst h;have g:¬ b<0:=by simpa using g
  exact⟨by simp only[binOp,Op.shift];rw[C' g];rfl,rfl⟩
 exact r _ ‹_› ‹_› h
theorem aV(x:Value)(l:Lh):an (x::l)=x.cells.toList++an l:=rfl
theorem bu(l m:Lh):an (l++m)=an l++an m:=by simp[an]
theorem av{sz:Nat}:∀ {els:Lh},(∀x∈els,x.cells.size=sz)->(an els).length=els.length*sz
 | [],_=>by simp[an]
 |x::l,h=>by rw[aV,Gr,av (λy a=>h y (by simp[a]))];have:=h x (by simp);simp only[GR,Je,Ib,this];omega
theorem bS{sz:Nat}:∀ {els:Lh}(i:Nat),(∀x∈els,x.cells.size=sz)->(an els).drop (i*sz)=an (els.drop i)
 |els,0,_=>by simp
 | [],i+1,_=>by simp[an]
 |x::l,i+1,h=>by have g:=h x (by simp);rw[aV,List.drop_succ_cons,<-bS i (λy a=>h y (by simp[a])),Je,Nat.add_comm,<-IK];congr 1;rw[List.drop_left' (by simpa using g)]
theorem cf{sz:Nat}:∀ {els:Lh}(i:Nat),(∀x∈els,x.cells.size=sz)->(an els).take (i*sz)=an (els.take i)
 |els,0,_=>by simp[an]
 | [],i+1,_=>by simp[an]
 |x::l,i+1,h=>by have g:=h x (by simp);rw[aV,List.take_succ_cons,aV,<-cf i (λy a=>h y (by simp[a])),Je,Nat.add_comm,List.take_append,IE (by simp;omega)];congr 2;simp[g]
theorem lA(h:∀ x∈els,x.cells.size=sz)(a:els[i]? =some x):((an els).drop (i*sz)).take sz=x.cells.toList:=by
 rw[bS i h];have g:i<els.length:=by rcases Hc i els.length with k|k;exact k;rw[Hs k]at a;cases a
 rw[Hj g];rw[Gq g]at a;simp only[osI]at a;rw[a,aV,List.take_left' (by simpa using h x (by rw[<-a];exact Gy g))]
theorem xb(R:Rel P σ A w){o:Nat}{c:Array Value}
 (k:σ.ro b=some (.cells c e fz)) (g:∀ x∈els,x.cells.size=sz) (h:VRs σ (an els) ((c.toList.drop o).take (els.length*sz))) (l:els[i]? =some x):
 ∃l',VRs σ x.cells.toList l'/\∀ (j:Nat) v',l'[j]? =some v'->w.cell? ⟨b,o+i*sz+j,none⟩=some v':=by
 refine⟨(((c.toList.drop o).take (els.length*sz)).drop (i*sz)).take sz,?_,λj v' a=>?_⟩;rw[<-lA g l];exact(h.drop _).take _;rw[GW]at a;split at a;rw[GV,GW]at a;split at a;rw[GV]at a;have p:c[o+(i*sz+j)]? =some v':=by simpa using a
 simp[World.cell?,R.ro b _ k,Ho,p];cases a;cases a
def ldat(E:Env)(t:TypeId)(els:Lh)(i j:Nat):Lj:=
 match nth els i with
 | some x=>(match und E t with
   | some d=>bif bp d then(match E.ti t with
    |some ti=>bif Nat.beq ((x.cells.toList.drop j).take ti.size).length ti.size then some (.agg ⟨(x.cells.toList.drop j).take ti.size⟩)else none
    | none=>none)
     else nth x.cells.toList j
   |none=>none)
 |none=>none
theorem vN(s:E.Ok)(R:Rel E.P σ A w){o:Nat}{c:Array Value}
 (D:σ.ro b=some (.cells c e fz)) (C:∀ x∈els,x.cells.size=sz) (M:VRs σ (an els) ((c.toList.drop o).take (els.length*sz))) (h:ldat E t els i j=some v):
 ∃v',(Instr.loadAt t (.pointer (some ⟨b,o+i*sz+j,none⟩))).run E.P w=.ok v' w/\VR σ v v':=by
 unfold ldat at h;split at h;rename_i x H;rw[aS]at H;obtain⟨u,J,g⟩:=xb R D C M H;split at h;rename_i d I;cases k:bp d with
 | true=>
  simp only[k,D']at h;split at h;rename_i p z;cases a:Nat.beq ((x.cells.toList.drop j).take p.size).length p.size;rw[a]at h;simp at h;rw[a]at h;simp only[D',osI]at h;subst h;have a:=Gt a;have q:=(J.drop j).take p.size;refine⟨.agg ⟨(u.drop j).take p.size⟩,?_,.agg q⟩;have K:((u.drop j).take p.size).length=p.size:=by rw[q.length,a]
  have l:=I0 (P:=E.P) w ⟨b,o+i*sz+j,none⟩ ((u.drop j).take p.size) (λm v r=>by rw[aQ];rw[GW]at r;split at r;rw[GV]at r;rw[show o+i*sz+j+m=o+i*sz+(j+m)by omega];exact g _ _ r;cases r)
  rw[K]at l;simp[Instr.loadAt,Instr.sureAddr,loadVar,cH s I,k,aD s z,l];cases h
 |false=>simp only[k,GN]at h;rw[aS]at h;obtain⟨v',O,N⟩:=J.get h;refine⟨v',?_,N⟩;have:=g j v' O;simp[Instr.loadAt,Instr.sureAddr,loadVar,cH s I,k,this]
 cases h;cases h
def optA(ρ:Operand->Lj)(x:Option Operand):Option Lj:=
 match x with
 |none=>some none
 |some x=>(match ρ x with|some v=>bif scal v then some (some v)else none|none=>none)
theorem iF(a:OpR σ ρ ρ'){x:Option Operand}{v:Lj}(h:optA ρ x=some v):x.map ρ'=v:=by unfold optA at h;split at h;cases h;rfl;rename_i x;split at h;rename_i u k;cases g:scal u;rw[g]at h;simp at h;rw[g]at h;simp only[D',osI]at h;subst h;simp[lT g (a x u k)];cases h
def symQ (E:Env)(ρ:Operand->Lj)(op:Op):Lj:=
 match op with
 | .binOp op t x y _=>(match ρ x with
   |some (.int k a)=>(match ρ y with|some (.int k' b)=>nL op k a k' b|_=>none)
   |some (.agg ⟨xs⟩)=>(match ρ y with|some (.agg ⟨ys⟩)=>Fl E op t xs ys|_=>none)
   |_=>none)
 | .convert s d x=>(match ρ x with
   |some (.int _ n)=>(match und E s,und E d with|some _,some (.int k)=>some (.int k (k.wrap n))|_,_=>none)
   |_=>none)
 | .indexAddr t x i=>(match ρ x with
   | some (.func (.yield sz) ⟨els⟩ ⟨[]⟩)=>(match ρ i,und E t with
     | some (.int _ n),some (.slice e)=>(match E.ti e with
       |some ie=>bif (Nat.beq ie.size sz&&Nat.blt 0 sz)&&(decide (0<=n)&&decide (n<els.length))then some (.func (.yield sz) ⟨els⟩ ⟨[.int .i64 n.toNat,.int .i64 (0:Nat)]⟩)else none
       |none=>none)
     |_,_=>none)
   |_=>none)
 | .fieldAddr t x f=>(match ρ x with
   | some (.func (.yield sz) ⟨els⟩ ⟨[.int .i64 i,.int .i64 j]⟩)=>(match und E t with
     | some (.struct fs)=>(match nth fs.toList f with
       | some fd=>(match E.ti fd.type with
         |some ti=>bif Nat.beq ti.size 0|| !Nat.blt (j.toNat+fd.offset) sz then none else some (.func (.yield sz) ⟨els⟩ ⟨[.int .i64 i,.int .i64 (j.toNat+fd.offset:Nat)]⟩)
         |none=>none)
       |none=>none)
     |_=>none)
   |_=>none)
 | .load t a=>(match ρ a with
   |some (.func (.yield _) ⟨els⟩ ⟨[.int .i64 i,.int .i64 j]⟩)=>ldat E t els i.toNat j.toNat
   |_=>none)
 | .slice t x lo hi mx=>(match ρ x with
   | some (.func (.yield sz) ⟨els⟩ ⟨[]⟩)=>(match mx,optA ρ lo,optA ρ hi with
     | none,some l,some h=>(match und E t,bnds els.length els.length l h none with
       | some (.slice e),some (a,b,_)=>(match E.ti e with
         |some ie=>bif Nat.beq ie.size sz then some (.func (.yield sz) ⟨(els.take b).drop a⟩ ⟨[]⟩)else none
         |none=>none)
       |_,_=>none)
     |_,_,_=>none)
   |_=>none)
 | .call c=>(match c.callee with
   | .builtin .len=>(match c.args.toList,c.argTypes.toList with
     | x::_,t::_=>(match ρ x with
       |some (.func (.yield _) ⟨els⟩ ⟨[]⟩)=>(match und E t with|some (.slice _)=>some (.int .i64 els.length)|_=>none)
       |_=>none)
     |_,_=>none)
   |_=>none)
 |_=>none
theorem B8(H:E.Ok)(R:Rel E.P σ A w)(p:OpR σ ρ ρ')
 (h:symQ E ρ o.op=some v):∃ v',(execOp ρ' o).run E.P w=.ok (.value v') w/\VR σ v v':=by
 unfold symQ at h;unfold execOp;split at h;rename_i op t x y yt q;rw[q];split at h;rename_i k a ha;split at h;rename_i k' b C;have e1:ρ' x=.int k a:=by have:=p x _ ha;generalize ρ' x=z at this;cases this;rfl
 have e2:ρ' y=.int k' b:=by have:=p y _ C;generalize ρ' y=z at this;cases this;rfl
 obtain⟨g1,g2⟩:=us (P:=E.P) (t:=t) (x:=x) (y:=y) (w:=w) h;refine⟨v,?_,dI g2 σ⟩;simp only[e1,e2,GH]at g1 ⊢;rw[g1];rfl;cases h;rename_i xs ha;split at h;rename_i ys C;have e1:∃ V,ρ' x=.agg ⟨V⟩/\VRs σ xs V:=by have:=p x _ ha;generalize ρ' x=z at this;cases this with|agg h=>exact⟨_,rfl,h⟩
 have e2:∃ U,ρ' y=.agg ⟨U⟩/\VRs σ ys U:=by have:=p y _ C;generalize ρ' y=z at this;cases this with|agg h=>exact⟨_,rfl,h⟩
 obtain⟨V,e1,v1⟩:=e1;obtain⟨U,e2,v2⟩:=e2;obtain⟨g1,g2⟩:=zP H v1 v2 (x:=x) (y:=y) (w:=w) h;refine⟨v,?_,dI g2 σ⟩;simp only[e1,e2,GH]at g1 ⊢;rw[g1];rfl;cases h;cases h;rename_i s d x q;rw[q];split at h;rename_i k0 n hn;have e1:ρ' x=.int k0 n:=by have:=p x _ hn;generalize ρ' x=z at this;cases this;rfl
 split at h;rename_i ds k hs hd;cases h;exact⟨_,by simp[e1,convert,ai H hs,ai H hd,Conv.intToInt],.int _ _⟩;cases h;cases h;rename_i t x i q;rw[q];split at h;rename_i sz els M;split at h;rename_i k n e hi S;have e2:ρ' i=.int k n:=by have:=p i _ hi;generalize ρ' i=z at this;cases this;rfl
 split at h;rename_i N Q;cases C:(Nat.beq N.size sz&&Nat.blt 0 sz)&&(decide (0<=n)&&decide (n<(els.length:Int)));rw[C]at h;simp at h;rw[C]at h;simp only[D',osI]at h;subst h;simp only[f',GK,GG,HN]at C;obtain⟨⟨rfl,a0⟩,h0,h1⟩:=C;have D:=p x _ M;generalize hy:ρ' x=y at D;cases D with
 |func fn O=>simp[Fn.still]at O
 |dat J u hk X=>refine⟨_,?_,.datP J u (i:=n.toNat) (by omega) a0 X⟩;simp[hy,e2,Instr.indexAt,asIntOf,ai H S,Instr.sureAddr,h0,h1,aD H Q,aQ]
 |datN=>simp at h1;omega
 |datE=>simp at h1;omega
 cases h;cases h;cases h;rename_i t x f q;rw[q];split at h;rename_i sz els i j M;split at h;rename_i fs S;split at h;rename_i fd O;rw[aS]at O;split at h;rename_i ti a5;cases C:Nat.beq ti.size 0|| !Nat.blt (j.toNat+fd.offset) sz with
 |true=>rw[C]at h;simp at h
 | false=>
  rw[C]at h;simp only[GN,osI]at h;subst h;simp only[HR,IL,HN]at C;obtain⟨hz,a1⟩:=C;have a3:=aX hz;have a9:fs[f]? =some fd:=by simpa using O
  have D:=p x _ M;generalize hy:ρ' x=y at D;cases D with
  |func fn O=>simp[Fn.still]at O
  | @datP b o _ i j _ _ _ _ J u hi hj X=>simp only[Gs]at a1 ⊢;refine⟨_,?_,.datP J u hi a1 X⟩;simp[hy,Instr.fieldAt,ai H S,a9,Instr.sureAddr,fieldPlace,aD H a5,a3,aQ,Ho]
 cases h;cases h;cases h;cases h;rename_i t a q;rw[q];split at h;rename_i sz els i j M;have D:=p a _ M;generalize hy:ρ' a=y at D;cases D with
 |func fn O=>simp[Fn.still]at O
 |datP J u hi hj X=>simp only[Gs]at h;obtain⟨v',g1,g2⟩:=vN H R J u X h;exact⟨v',by simp[hy,g1],g2⟩
 cases h;rename_i t x lo hi mx q;rw[q];split at h;rename_i sz els M;split at h;rename_i l hh hl a8;split at h;rename_i e a b m S C;split at h;rename_i N Q;cases hs:Nat.beq N.size sz;rw[hs]at h;simp at h;rw[hs]at h;simp only[D',osI]at h;subst h;obtain rfl:=Gt hs;have D:=p x _ M;simp only[iF p hl,iF p a8,Jp,GH];generalize ρ' x=y at D ⊢;cases D with
 |func fn O=>simp[Fn.still]at O
 | @dat b0 o k _ _ _ c _ J u hk X=>
  obtain⟨g,h1,h2,h3,h4,_⟩:=c9 (P:=E.P) (w:=w) (b:=true) C hk;simp only[IJ,HG,HL]at g;have hm:=h4 rfl;have I:(Instr.sliceAt t (.slice (some ⟨b0,o,none⟩) els.length k) l hh none).run E.P w=.ok (.slice (some (if k=a then⟨b0,o,none⟩else(⟨b0,o,none⟩:Addr).add (a*N.size))) (b-a) (k-a)) w:=by simp only[Instr.sliceAt,Instr.slice,GH,ai H S,GC,g,aD H Q,Hx,Hz];split<;>rfl
  refine⟨_,by rw[I];rfl,?_⟩;have K:((els.take b).drop a).length=b-a:=by simp;omega
  by_cases a7:k=a;have:(els.take b).drop a=[]:=by apply GY;omega
  rw[this,show b-a=0 by omega];exact .datE _ _ _;rw[C' a7,aQ,<-K];refine .dat J (λx M=>u x (H6 (H7 M))) (by omega) ?_;have D:=(X.take (b*N.size)).drop (a*N.size);rw[cf b u,bS a (λx M=>u x (H6 M))]at D;have e:List.drop (a*N.size) (List.take (b*N.size) (List.take (els.length*N.size) (List.drop o c.toList)))=List.take (((els.take b).drop a).length*N.size) (List.drop (o+a*N.size) c.toList):=by rw[List.take_take,Nat.min_eq_left (Hn _ (by omega)),List.drop_take,IK,K,Nat.sub_mul]
  rw[e]at D;exact D
 | datN=>
  obtain⟨g,h1,h2,h3,h4,_⟩:=c9 (P:=E.P) (w:=w) (b:=true) (cp:=0) C (GE _);simp only[IJ,HG,HL]at g;have Y:b=0:=by simp at h3;omega
  have Z:a=0:=by omega
  subst Y;subst Z;refine⟨.slice none 0 0,?_,by simpa using VR.datN _⟩;simp only[Iq]at g;simp[Instr.sliceAt,Instr.slice,ai H S,g,aD H Q]
 | datE _ ad k=>
  obtain⟨g,h1,h2,h3,h4,_⟩:=c9 (P:=E.P) (w:=w) (b:=true) (cp:=k) C (IF _);simp only[IJ,HG,HL]at g;have Y:b=0:=by simp at h3;omega
  have Z:a=0:=by omega
  subst Y;subst Z;simp only[Iq]at g;have I:(Instr.sliceAt t (.slice (some ad) 0 k) l hh none).run E.P w=.ok (.slice (some (if k=0 then ad else ad.add (0*N.size))) (0-0) (k-0)) w:=by simp only[Instr.sliceAt,Instr.slice,GH,ai H S,GC,g,aD H Q,Hx,Hz];split<;>rfl
  exact⟨_,by rw[I];rfl,by simpa using VR.datE _ _ _⟩
 cases h;cases h;cases h;cases h;rename_i c q;rw[q];split at h;rename_i C;split at h;rename_i x r t ts a4 a6;split at h;rename_i sz els M;split at h;rename_i e S;cases h;have D:=p x _ M;have ha:(c.args.map ρ')[0]? =some (ρ' x):=by rw[Array.getElem?_map,<-Ir,a4];rfl
 have ht:c.argTypes[0]? =some t:=by rw[<-Ir,a6];rfl
 refine⟨.int .i64 els.length,?_,.int _ _⟩;generalize ρ' x=y at D ha;have a2:∃ ad k,y=.slice ad els.length k:=by
  cases D with
  |func fn O=>simp[Fn.still]at O
  |dat=>exact⟨_,_,rfl⟩
  |datN=>exact⟨_,_,rfl⟩
  |datE=>exact⟨_,_,rfl⟩
 obtain⟨ad,k,rfl⟩:=a2;have K:(Builtin.len_ c.argTypes o.type (c.args.map ρ')).run E.P w=.ok (.int .i64 els.length) w:=by unfold Builtin.len_;rw[ha,ht];simp[ai H S,goInt]
 simp only[resolve,C,GH,Hx,GC,invoke,builtin,K];cases h;cases h;cases h;cases h;cases h
abbrev _root_.Go.Gw:=@List.getElem?_eq_some_iff
abbrev _root_.Go.GO:=@List.mem_of_getElem?
abbrev _root_.Go.HY:=@Nat.add_mul
abbrev _root_.Go.He:=@List.getElem?_append_left
abbrev _root_.Go.Ht:=@List.getElem?_append_right
def isG(m:Nat):Bool:=Nat.ble (unk+3) m
def gLo(sz o:Nat):Nat:=bif Nat.beq sz 1 then o else o/sz
def gOff(sz o a:Nat):Nat:=bif Nat.beq sz 1 then a+o else o+a*sz
def gIdx(sz o i:Nat):Nat:=bif Nat.beq sz 1 then i+o else i+o/sz
def gPtr(sz B i j:Nat):Value:=.func (.yield sz) ⟨[.pointer (some ⟨B,0,none⟩)]⟩ ⟨[.int .i64 (i:Nat),.int .i64 (j:Nat),.bool true]⟩
theorem k8(h:0<sz):gLo sz (lo*sz)=lo:=by
 unfold gLo;cases a:Nat.beq sz 1 with
 |true=>have:=Gt a;subst this;simp
 |false=>simp only[GN];exact Nat.mul_div_cancel _ h
theorem mT(sz o a:Nat):gOff sz o a=o+a*sz:=by
 unfold gOff;cases g:Nat.beq sz 1 with
 |true=>have:=Gt g;subst this;simp;omega
 |false=>rfl
theorem EP(h:0<sz):gIdx sz (lo*sz) i=i+lo:=by
 unfold gIdx;cases a:Nat.beq sz 1 with
 |true=>have:=Gt a;subst this;simp
 |false=>simp only[GN];rw[Nat.mul_div_cancel _ h]
theorem isG_iff:isG m=true↔unk+3<=m:=by unfold isG;rw[GI]
theorem cb{o:Nat}(h:VR σ (.slice (some ⟨B,o,none⟩) n m) y)(s:isG m=true):
 (n=0/\∃ a,y=.slice a 0 0)∨∃ b d c lo k,σ B=some (b,d,c)/\y=.slice (some ⟨b,d+o,none⟩) n k/\n<=k/\lo+k<=c/\o=lo*gsz m:=by
 rw[isG_iff]at s;generalize p:m=m0 at h;cases h with
 |slice i n k g z=>omega
 |sliceU n g l=>omega
 |sliceV i n k g l=>omega
 |sliceE a a' k=>omega
 |gs0 B o m a r=>exact .inl ⟨rfl,a,rfl⟩
 |gs lo o n k m g l u q r=>subst p;exact .inr ⟨_,_,_,lo,k,g,rfl,l,u,q⟩
theorem VR.gsMk{k:Nat}(h:σ B=some (b,d,c))(g:isG m=true)(a:n<=k)(l:lo+k<=c):VR σ (.slice (some ⟨B,lo*gsz m,none⟩) n m) (.slice (some ⟨b,d+lo*gsz m,none⟩) n k):=
 .gs lo _ n k m h a l rfl (isG_iff.1 g)
theorem VR.gs0Mk(B o m:Nat)(a:Option Addr)(g:isG m=true):VR σ (.slice (some ⟨B,o,none⟩) 0 m) (.slice a 0 0):=
 .gs0 B o m a (isG_iff.1 g)
theorem o4(h:∀ x∈els,x.cells.size=sz)(a:els[i]? =some x)(j:Nat)(g:j<sz):(an els)[i*sz+j]? =x.cells.toList[j]?:=by rw[<-lA h a,GW,E' g,GV]
theorem wr(h:OR P σ w.heap[b]? d c (.gro els tl e))(p:(els++tl)[i]? =some x):
 ∃l',VRs σ x.cells.toList l'/\∀ (j:Nat) v',l'[j]? =some v'->w.cell? ⟨b,d+i*P.cellsOf e+j,none⟩=some v':=by
 obtain⟨c',lo,I,C,M,z,r,K,J⟩:=h;generalize s:P.cellsOf e=sz at*;have u:i<(els++tl).length:=(Gw.1 p).1;have g:x.cells.toList.length=sz:=by simpa using r x (GO p)
 have k:(i+1)*sz<=c*sz:=Hn _ (by omega);rw[Je]at k;have l:((c'.toList.drop (d+i*sz)).take sz).length=sz:=by simp;omega
 refine⟨(c'.toList.drop (d+i*sz)).take sz,VRs.of_get (by rw[l,g]) λj v a=>?_,λj v' a=>?_⟩;have q:j<sz:=by rw[<-g];exact(Gw.1 a).1
 obtain⟨v',H,D⟩:=z (i*sz+j) v (by rw[o4 r p j q];exact a);refine⟨v',?_,D⟩;rw[GW,E' q,GV,Ho];simpa using H;rw[GW]at a;split at a;rw[GV]at a;have:c'[d+i*sz+j]? =some v':=by simpa using a
 simp[World.cell?,C,this];cases a
theorem zp(s:E.Ok){base:Nat}(D:nth els i=some x){l':Lh}(C:VRs σ x.cells.toList l')(g:∀ (m:Nat) v',l'[m]? =some v'->w.cell? ⟨b,base+m,none⟩=some v')(h:ldat E t els i j=some v):
 ∃v',(Instr.loadAt t (.pointer (some ⟨b,base+j,none⟩))).run E.P w=.ok v' w/\VR σ v v':=by
 unfold ldat at h;simp only[D]at h;split at h;rename_i d z;cases k:bp d with
 | true=>
  simp only[k,D']at h;split at h;rename_i p u;cases a:Nat.beq ((x.cells.toList.drop j).take p.size).length p.size;rw[a]at h;simp at h;rw[a]at h;simp only[D',osI]at h;subst h;have a:=Gt a;have q:=(C.drop j).take p.size;refine⟨.agg ⟨(l'.drop j).take p.size⟩,?_,.agg q⟩;have H:((l'.drop j).take p.size).length=p.size:=by rw[q.length,a]
  have l:=I0 (P:=E.P) w ⟨b,base+j,none⟩ ((l'.drop j).take p.size) (λm v r=>by rw[aQ];rw[GW]at r;split at r;rw[GV]at r;rw[show base+j+m=base+(j+m)by omega];exact g _ _ r;cases r)
  rw[H]at l;simp[Instr.loadAt,Instr.sureAddr,loadVar,cH s z,k,aD s u,l];cases h
 |false=>simp only[k,GN]at h;rw[aS]at h;obtain⟨v',J,I⟩:=C.get h;refine⟨v',?_,I⟩;have:=g j v' J;simp[Instr.loadAt,Instr.sureAddr,loadVar,cH s z,k,this]
 cases h
def groQ (E:Env)(A:AH)(ρ:Operand->Lj)(op:Op):Lj:=
 match op with
 | .indexAddr t x i=>(match ρ x with
   | some (.slice (some ⟨B,o,none⟩) n m)=>bif isG m then(match ρ i,und E t with
     | some (.int _ k),some (.slice e)=>(match E.ti e with
       |some ie=>bif (Nat.beq ie.size (gsz m)&&Nat.blt 0 (gsz m))&&(decide (0<=k)&&decide (k<n))then some (gPtr (gsz m) B (gIdx (gsz m) o k.toNat) 0)else none
       |none=>none)
     |_,_=>none)else none
   | some (.func (.yield sz) ⟨[.pointer (some ⟨B,0,none⟩)]⟩ ⟨[.int .i64 a,.int .i64 j,.bool true]⟩)=>(match ρ i,und E t with
     | some (.int _ k),some (.array len el)=>(match E.ti el with
       |some ie=>bif (decide (0<=k)&&decide (k<len))&&Nat.blt (j.toNat+k.toNat*ie.size) sz then some (gPtr sz B a.toNat (j.toNat+k.toNat*ie.size))else none
       |none=>none)
     |_,_=>none)
   |_=>none)
 | .fieldAddr t x f=>(match ρ x with
   | some (.func (.yield sz) ⟨[.pointer (some ⟨B,0,none⟩)]⟩ ⟨[.int .i64 i,.int .i64 j,.bool true]⟩)=>(match und E t with
     | some (.struct fs)=>(match nth fs.toList f with
       | some fd=>(match E.ti fd.type with
         |some ti=>bif Nat.beq ti.size 0|| !Nat.blt (j.toNat+fd.offset) sz then none else some (gPtr sz B i.toNat (j.toNat+fd.offset))
         |none=>none)
       |none=>none)
     |_=>none)
   |_=>none)
 | .load t a=>(match ρ a with
   | some (.func (.yield sz) ⟨[.pointer (some ⟨B,0,none⟩)]⟩ ⟨[.int .i64 i,.int .i64 j,.bool true]⟩)=>(match A.t.get B with
     | some (.gro els tl e)=>(match E.ti e with
       |some ie=>bif Nat.beq ie.size sz then ldat E t (glue els tl) i.toNat j.toNat else none
       |none=>none)
     |_=>none)
   |_=>none)
 | .slice t x lo hi mx=>(match ρ x with
   | some (.slice (some ⟨B,o,none⟩) n m)=>bif isG m then(match optA ρ lo,optA ρ hi,optA ρ mx with
     | some l,some h,some z=>(match und E t,bnds n n l h z with
       | some (.slice e),some (a,b,_)=>(match E.ti e with
         |some ie=>bif Nat.beq ie.size (gsz m)&&Nat.blt 0 (gsz m)then some (.slice (some ⟨B,gOff (gsz m) o a,none⟩) (b-a) m)else none
         |none=>none)
       |_,_=>none)
     |_,_,_=>none)else none
   |_=>none)
 |_=>none
theorem EM(H:E.Ok)(R:Rel E.P σ A w)(g:OpR σ ρ ρ')
 (h:groQ E A ρ o.op=some v):∃ v',(execOp ρ' o).run E.P w=.ok (.value v') w/\VR σ v v':=by
 unfold groQ at h;unfold execOp;split at h;rename_i t x i D;rw[D];split at h;rename_i B o n m O;cases N:isG m;rw[N]at h;cases h;rw[N]at h;simp only[D']at h;split at h;rename_i kk k e hi Q;have e2:ρ' i=.int kk k:=by have:=g i _ hi;generalize ρ' i=z at this;cases this;rfl
 split at h;rename_i J u;cases p:(Nat.beq J.size (gsz m)&&Nat.blt 0 (gsz m))&&(decide (0<=k)&&decide (k<(n:Int)));rw[p]at h;simp at h;rw[p]at h;simp only[D',osI]at h;subst h;simp only[f',GK,GG,HN]at p;obtain⟨⟨Y,U⟩,h0,h1⟩:=p;have I:=g x _ O;generalize S:ρ' x=y at I;rcases cb I N with⟨en,a,ey⟩|⟨b,d,c,lo,kq,s,ey,hn,hc,eo⟩;subst en;simp at h1;omega;subst ey;rw[show gIdx (gsz m) o k.toNat=k.toNat+lo by rw[eo];exact EP U];rw[eo]at S;refine⟨.pointer (some ⟨b,d+(k.toNat+lo)*gsz m+0,none⟩),?_,.gp (gsz m) (k.toNat+lo) 0 s⟩;have ea:d+lo*gsz m+k.toNat*J.size=d+(k.toNat+lo)*gsz m+0:=by rw[Y,HY];omega
 simp[S,e2,Instr.indexAt,asIntOf,ai H Q,Instr.sureAddr,h0,h1,aD H u,aQ];simpa using ea;cases h;cases h;rename_i sz B a j O;split at h;rename_i kk k a3 el hi Q;have e2:ρ' i=.int kk k:=by have:=g i _ hi;generalize ρ' i=z at this;cases this;rfl
 split at h;rename_i J u;cases p:(decide (0<=k)&&decide (k<(a3:Int)))&&Nat.blt (j.toNat+k.toNat*J.size) sz;rw[p]at h;simp at h;rw[p]at h;simp only[D',osI]at h;subst h;simp only[f',GK]at p;obtain⟨⟨h0,h1⟩,_⟩:=p;have I:=g x _ O;generalize S:ρ' x=y at I;cases I with
 |func fn X=>simp[Fn.still]at X
 | @gp _ b d c _ a j s=>refine⟨_,?_,.gp sz a (j+k.toNat*J.size) s⟩;simp[S,e2,Instr.indexAt,asIntOf,ai H Q,Instr.sureAddr,h0,h1,aD H u,aQ,Ho]
 cases h;cases h;cases h;rename_i t x f D;rw[D];split at h;rename_i sz B i j O;split at h;rename_i fs Q;split at h;rename_i fd X;rw[aS]at X;split at h;rename_i ti a6;cases p:Nat.beq ti.size 0|| !Nat.blt (j.toNat+fd.offset) sz with
 |true=>rw[p]at h;simp at h
 | false=>
  rw[p]at h;simp only[GN,osI]at h;subst h;simp only[HR,IL,HN]at p;obtain⟨hz,a9⟩:=p;have a5:=aX hz;have b3:fs[f]? =some fd:=by simpa using X
  have I:=g x _ O;generalize S:ρ' x=y at I;cases I with
  |func fn X=>simp[Fn.still]at X
  | @gp _ b d c _ i j s=>simp only[Gs]at a9 ⊢;refine⟨_,?_,.gp sz i (j+fd.offset) s⟩;simp[S,Instr.fieldAt,ai H Q,b3,Instr.sureAddr,fieldPlace,aD H a6,a5,aQ,Ho]
 cases h;cases h;cases h;cases h;rename_i t a D;rw[D];split at h;rename_i sz B i j O;split at h;rename_i els tl e hB;rw[b7]at h;split at h;rename_i J u;cases p:Nat.beq J.size sz;rw[p]at h;cases h;rw[p]at h;obtain rfl:=Gt p;simp only[D']at h;have I:=g a _ O;generalize S:ρ' a=y at I;cases I with
 |func fn X=>simp[Fn.still]at X
 | @gp _ b d c _ i j s=>
  simp only[Gs]at h;have a7:=R.at hB rfl s;have b4:E.P.cellsOf e=J.size:=by simp[Program.cellsOf,H.ti _ _ u]
  have a1:∃ x,nth (els++tl) i=some x:=by unfold ldat at h;split at h;exact⟨_, ‹_›⟩;cases h
  obtain⟨x,a0⟩:=a1;have V:=a0;rw[aS]at V;obtain⟨l',hl,M⟩:=wr a7 V;rw[b4]at M;obtain⟨v',g1,g2⟩:=zp H a0 hl M h;exact⟨v',by simp[S,g1],g2⟩
 cases h;cases h;cases h;rename_i t x lo hi mx D;rw[D];split at h;rename_i B o n m O;cases N:isG m;rw[N]at h;cases h;rw[N]at h;simp only[D']at h;split at h;rename_i l hh zz hl b1 a4;split at h;rename_i e a b mm Q p;split at h;rename_i J u;cases hs:Nat.beq J.size (gsz m)&&Nat.blt 0 (gsz m);rw[hs]at h;simp at h;rw[hs]at h;simp only[D',osI]at h;subst h;simp only[f',GG,HN]at hs;obtain⟨Y,U⟩:=hs;have I:=g x _ O;simp only[iF g hl,iF g b1,iF g a4,GH];generalize ρ' x=y at I ⊢;rcases cb I N with⟨en,Z,ey⟩|⟨b0,d,c,q,k,s,ey,hn,hc,eo⟩;subst en;subst ey;obtain⟨r,h1,h2,h3,h4,_⟩:=c9 (P:=E.P) (w:=w) (b:=true) (cp:=0) p (GE _);have b5:b=0:=by omega
 have c0:a=0:=by omega
 have a8:mm=0:=by omega
 subst b5;subst c0;subst a8;simp only[ite_self]at r;refine⟨.slice Z 0 0,?_,by simpa using VR.gs0Mk _ _ m Z N⟩;cases Z with
 |none=>simp[Instr.sliceAt,Instr.slice,ai H Q,r,aD H u]
 | some Z=>
  have C:(Instr.sliceAt t (.slice (some Z) 0 0) l hh zz).run E.P w=.ok (.slice (some (if 0=0 then Z else Z.add (0*J.size))) (0-0) (0-0)) w:=by simp only[Instr.sliceAt,Instr.slice,GH,ai H Q,GC,r,aD H u,Hx,Hz];rfl
  rw[C];rfl
 subst ey;rw[eo];obtain⟨r,h1,h2,h3,h4,_⟩:=c9 (P:=E.P) (w:=w) (b:=true) p hn;generalize hK:(if zz.isSome then mm else k)=K at r;have c1:mm<=K/\K<=k:=by
  cases zz with
  |none=>simp only[IJ,HG,HL]at hK;omega
  |some z=>simp only[Option.isSome_some,Ia]at hK;omega
 have C:(Instr.sliceAt t (.slice (some ⟨b0,d+q*gsz m,none⟩) n k) l hh zz).run E.P w=.ok (.slice (some (if K=a then⟨b0,d+q*gsz m,none⟩else(⟨b0,d+q*gsz m,none⟩:Addr).add (a*J.size))) (b-a) (K-a)) w:=by simp only[Instr.sliceAt,Instr.slice,GH,ai H Q,GC,r,aD H u,Hx,Hz];split<;>rfl
 refine⟨_,by rw[C];rfl,?_⟩;by_cases a2:K=a;rw[E' a2,show b-a=0 by omega,show K-a=0 by omega];exact VR.gs0Mk _ _ m _ N;rw[C' a2,aQ,mT,Y,show q*gsz m+a*gsz m=(q+a)*gsz m by rw[HY],show d+q*gsz m+a*gsz m=d+(q+a)*gsz m by rw[HY];omega];exact VR.gsMk s N (by omega) (by omega);cases h;cases h;cases h;cases h;cases h
theorem nu{rest:Lh}(h:OR P σ w.heap[b]? d c (.arr els rest n e))(a:(els++rest)[i]? =some v):
 ∃v',w.cell? ⟨b,d+i,none⟩=some v'/\VR σ v v':=by obtain⟨⟨c',lo,q,k,u,g,s⟩,r⟩:=h;obtain⟨v',p,l⟩:=g i v a;exact⟨v',by simp[World.cell?,k,p],l⟩
theorem oZ{P:Program}{σ:Sig}{w:World}{b:Nat}:∀ {l:Lh}(o:Nat),(∀(j:Nat) v,l[j]? =some v->∃ v',w.cell? ⟨b,o+j,none⟩=some v'/\VR σ v v')->
 ∃l',VRs σ l l'/\(∀(j:Nat) v',l'[j]? =some v'->w.cell? ⟨b,o+j,none⟩=some v')
 | [],o,_=>⟨[],.nil,λj v' h=>by simp at h⟩
 | x::l,o,hget=>by
  obtain⟨x',q,p⟩:=hget 0 x (by simp);obtain⟨l',k,g⟩:=oZ (P:=P) (l:=l) (o+1) (λj v a=>by obtain⟨v',s,r⟩:=hget (j+1) v (by simpa using a);exact⟨v',by rw[show o+1+j=o+(j+1)by omega];exact s,r⟩)
  refine⟨x'::l',.cons p k,λj v' a=>?_⟩;cases j with
  |zero=>simp at a;subst a;simpa using q
  |succ j=>simp at a;rw[show o+(j+1)=o+1+j by omega];exact g j v' a
def arrQ (E:Env)(A:AH)(ρ:Operand->Lj)(op:Op):Lj:=
 match op with
 | .indexAddr t x i=>(match ρ x with
   | some (.pointer (some ⟨B,0,none⟩))=>(match ρ i,und E t with
     | some (.int _ k),some (.array len el)=>(match E.ti el with
       |some ie=>bif (Nat.beq ie.size 1&&Nat.ble 64 len)&&(decide (0<=k)&&decide (k<len))then some (gPtr 1 B k.toNat 0)else none
       |none=>none)
     |_,_=>none)
   |_=>none)
 | .load t a=>(match ρ a with
   | some (.pointer (some ⟨B,o,none⟩))=>(match A.t.get B with
     | some (.arr els rest n e)=>(match und E t with
       | some d=>bif bp d then(match E.ti t with
        |some ti=>bif Nat.beq o 0&&Nat.beq ti.size n then some (.agg ⟨els⟩)else none
        | none=>none)
         else bif Nat.ble n o then nth rest (o-n)else none
       |none=>none)
     |_=>none)
   | some (.func (.yield sz) ⟨[.pointer (some ⟨B,0,none⟩)]⟩ ⟨[.int .i64 i,.int .i64 j,.bool true]⟩)=>(match A.t.get B with
     | some (.arr els rest n e)=>(match und E t with
       |some d=>bif bp d|| !(Nat.beq sz 1&&Nat.beq j.toNat 0)then none else nth els i.toNat
       |none=>none)
     | some (.cells c e)=>(match und E t with
       |some d=>bif bp d|| !(Nat.beq sz 1&&Nat.beq j.toNat 0)then none else nth c i.toNat
       |none=>none)
     |_=>none)
   |_=>none)
 |_=>none
theorem Gc(K:E.Ok)(R:Rel E.P σ A w)(r:OpR σ ρ ρ')
 (h:arrQ E A ρ o.op=some v):∃ v',(execOp ρ' o).run E.P w=.ok (.value v') w/\VR σ v v':=by
 unfold arrQ at h;unfold execOp;split at h;rename_i t x i N;rw[N];split at h;rename_i B O;split at h;rename_i kk k S el hi C;have e2:ρ' i=.int kk k:=by have:=r i _ hi;generalize ρ' i=z at this;cases this;rfl
 split at h;rename_i ie a1;cases g:(Nat.beq ie.size 1&&Nat.ble 64 S)&&(decide (0<=k)&&decide (k<(S:Int)));rw[g]at h;simp at h;rw[g]at h;simp only[D',osI]at h;subst h;simp only[f',GK,GG]at g;obtain⟨⟨a0,_⟩,h0,h1⟩:=g;have q:=r x _ O;generalize u:ρ' x=y at q;cases q with
 | @ptr _ b d c i hσ=>refine⟨.pointer (some ⟨b,d+k.toNat*1+0,none⟩),?_,.gp 1 k.toNat 0 hσ⟩;simp[u,e2,Instr.indexAt,asIntOf,ai K C,Instr.sureAddr,h0,h1,aD K a1,aQ,a0]
 cases h;cases h;cases h;rename_i t a N;rw[N];split at h;rename_i B o O;split at h;rename_i els Q n e V;have q:=r a _ O;generalize u:ρ' a=y at q;cases q with
 | @ptr _ b d c i hσ=>
  have s:=R.at V rfl hσ;obtain⟨_,H⟩:=id s;split at h;rename_i dd C;cases p:bp dd with
  | true=>
   simp only[p,D']at h;split at h;rename_i Y Z;cases g:Nat.beq o 0&&Nat.beq Y.size n;rw[g]at h;simp at h;rw[g]at h;simp only[D',osI]at h;subst h;simp only[f',GG]at g;obtain⟨rfl,hn⟩:=g;obtain⟨X,g1,g2⟩:=oZ (P:=E.P) (σ:=σ) (w:=w) (b:=b) (l:=els) (d+0) (λj v q=>by obtain⟨v',J,I⟩:=nu s (i:=j) (v:=v) (by rw[He (Gw.1 q).1];exact q);exact⟨v',by simpa using J,I⟩)
   have D:=I0 (P:=E.P) w ⟨b,d+0,none⟩ X (λj v q=>by rw[aQ];exact g2 j v q);have hl:X.length=Y.size:=by rw[g1.length,H,hn]
   rw[hl]at D;refine⟨.agg ⟨X⟩,?_,.agg g1⟩;have M:(loadCells ⟨b,d,none⟩ Y.size).run E.P w=.ok X.toArray w:=by simpa using D
   simp[u,Instr.loadAt,Instr.sureAddr,loadVar,cH K C,p,aD K Z,M];cases h
  |false=>simp only[p,GN]at h;cases g:Nat.ble n o;rw[g]at h;simp at h;rw[g]at h;simp only[D',aS]at h;rw[GI]at g;obtain⟨v',J,I⟩:=nu s (i:=o) (v:=v) (by rw[Ht (by omega),H];exact h);exact⟨v',by simp[u,Instr.loadAt,Instr.sureAddr,loadVar,cH K C,p,J],I⟩
  cases h
 cases h;rename_i sz B i j O;split at h;rename_i els Q n e V;split at h;rename_i dd C;cases g:bp dd|| !(Nat.beq sz 1&&Nat.beq j.toNat 0)with
 |true=>rw[g]at h;simp at h
 | false=>
  rw[g]at h;simp only[GN,aS]at h;simp only[HR,IL,f',GG]at g;obtain⟨p,rfl,U⟩:=g;have q:=r a _ O;generalize u:ρ' a=y at q;cases q with
  |func fn hf=>simp[Fn.still]at hf
  | @gp _ b d c _ i j hσ=>simp only[Gs]at h U;subst U;have s:=R.at V rfl hσ;obtain⟨v',J,I⟩:=nu s (i:=i) (v:=v) (by rw[He (Gw.1 h).1];exact h);exact⟨v',by simp[u,Instr.loadAt,Instr.sureAddr,loadVar,cH K C,p,J],I⟩
 cases h;rename_i cs e V;split at h;rename_i dd C;cases g:bp dd|| !(Nat.beq sz 1&&Nat.beq j.toNat 0)with
 |true=>rw[g]at h;simp at h
 | false=>
  rw[g]at h;simp only[GN,aS]at h;simp only[HR,IL,f',GG]at g;obtain⟨p,rfl,U⟩:=g;have q:=r a _ O;generalize u:ρ' a=y at q;cases q with
  |func fn hf=>simp[Fn.still]at hf
  | @gp _ b d c _ i j hσ=>simp only[Gs]at h U;subst U;obtain⟨b',d',k',v',q0,J,I⟩:=gx R (B:=B) (i:=i) (c:=cs) (v:=v) (by simp[look,V]) h;rw[hσ]at q0;cases q0;exact⟨v',by simp[u,Instr.loadAt,Instr.sureAddr,loadVar,cH K C,p,J],I⟩
 cases h;cases h;cases h;cases h
def idxB(E:Env)(t:TypeId)(x i:Value):Lj:=
 match x with
 | .func (.yield sz) ⟨els⟩ ⟨[.int .i64 a,.int .i64 b]⟩=>bif E.sym then none else(match i,und E t with
   | .int _ n,some (.array len e)=>(match E.ti e with
     |some ie=>bif (Nat.beq ie.size sz&&(decide (0<=n)&&decide (n<(len:Int))))&&Nat.blt (a.toNat+n.toNat) els.length then some (.func (.yield sz) ⟨els⟩ ⟨[.int .i64 (a.toNat+n.toNat:Nat),.int .i64 b]⟩)else none
     |none=>none)
   |_,_=>none)
 |_=>idxA E t x i
theorem Et(l:E.Ok){i s:Value}(u:VR σ x x')(r:VR σ i s)(h:idxB E t x i=some v)(w:World):
 ∃v',(Instr.indexAt t x' s).run E.P w=.ok v' w/\VR σ v v':=by
 unfold idxB at h;split at h;rename_i sz els a b;cases z:E.sym with
 |true=>rw[z]at h;simp at h
 | false=>
  rw[z]at h;simp only[GN]at h;split at h;rename_i k n p e H;cases r;split at h;rename_i D q;cases g:(Nat.beq D.size sz&&(decide (0<=n)&&decide (n<(p:Int))))&&Nat.blt (a.toNat+n.toNat) els.length;rw[g]at h;simp at h;rw[g]at h;simp only[D',osI]at h;subst h;simp only[f',GK,GG,HN]at g;obtain⟨⟨rfl,K,J⟩,C⟩:=g;cases u with
  |func M I=>simp[Fn.still]at I
  | @datP b0 o _ a b _ _ _ _ hro hsz r hj hc=>simp only[Gs]at C ⊢;refine⟨_,?_,.datP hro hsz C hj hc⟩;simp[Instr.indexAt,asIntOf,ai l H,Instr.sureAddr,K,J,aD l q,aQ,Nat.add_mul];omega
  cases h;cases h
 exact idx_ok l u r h w
def vJ(E:Env)(A:AH)(t:TypeId)(a:Value):Lj:=
 match a with
 | .func (.yield _) ⟨els⟩ ⟨[.int .i64 i,.int .i64 j]⟩=>bif E.sym then none else ldat E t els i.toNat j.toNat
 |_=>vK E A t a
theorem zi(l:E.Ok)(R:Rel E.P σ A w){a:Value}(q:VR σ a a')(h:vJ E A t a=some v):
 ∃v',(Instr.loadAt t a').run E.P w=.ok v' w/\VR σ v v':=by
 unfold vJ at h;split at h;rename_i sz els i j;cases p:E.sym with
 |true=>rw[p]at h;simp at h
 | false=>
  rw[p]at h;simp only[GN]at h;cases q with
  |func C r=>simp[Fn.still]at r
  |datP k g z u s=>simp only[Gs]at h;exact vN l R k g s h
 exact vI l R q h
abbrev _root_.Go.IX:=@Array.toList_map
abbrev _root_.Go.Iu:=@Nat.mod_eq_of_lt
abbrev _root_.Go.Ih:=@Nat.mod_lt
def nnil:Value->Bool
 | .pointer none| .nilIface| .nilFunc=>false
 | .func (.method _) _ _=>false
 |_=>true
def jN(E:Env)(A:AH)(ρ:Operand->Lj)(b:Builtin)(c:Call)(ty:TypeId):Lj:=
 match b with
 | .len=>(match c.args.toList,c.argTypes.toList with
   |x::_,t::_=>(match ρ x with|some v=>lenA E A t v|none=>none)
   |_,_=>none)
 | .max=>(match mapO ρ c.args.toList with
   |some vs=>bif vs.all scal then(match prun E.P (Builtin.max_ c.argTypes ty ⟨vs⟩)with|some v=>bif flat v then some v else none|none=>none)else none
   |none=>none)
 | .min=>(match mapO ρ c.args.toList with
   |some vs=>bif vs.all scal then(match prun E.P (Builtin.min_ c.argTypes ty ⟨vs⟩)with|some v=>bif flat v then some v else none|none=>none)else none
   |none=>none)
 | .unsafeSliceData=>(match c.args.toList with
   | [x]=>(match ρ x with
     |some (.slice none _ _)=>some (.pointer none)
     |some (.slice (some ⟨B,i,none⟩) n k)=>bif Nat.beq n 0||Nat.beq k 0 then none else some (.pointer (some ⟨B,i,none⟩))
     |_=>none)
   |_=>none)
 |_=>none
def qy(E:Env)(x:Value)(asserted:TypeId)(cok:Bool):Lj:=bif E.sym then none else none
theorem xH(l:E.Ok){xt a:TypeId}{g:Bool}(p:VR σ x x')(h:qy E x a g=some v)(w:World):
 ∃v',(Instr.typeAssert x' xt a g).run E.P w=.ok v' w/\VR σ v v':=by unfold qy at h;cases k:E.sym<;>rw[k]at h<;>cases h
def bi(E:Env)(A:AH)(ρ:Operand->Lj)(ty:TypeId)(op:Op):Lj:=
 match op with
 | .move x=>ρ x
 | .assign x=>ρ x
 | .pick c a b=>(match ρ c with|some (.bool t)=>(match t with|true=>ρ a|false=>ρ b)|_=>none)
 | .nilCheck x=>(match ρ x with|some v=>bif nnil v then some v else none|none=>none)
 | .build t parts=>(match jQ ρ parts.toList with|some ps=>xw E t ps|none=>none)
 | .binOp op t x y _=>(match ρ x,ρ y with|some a,some b=>binA E op t x y a b|_,_=>none)
 | .unOp op _ x=>(match ρ x with|some (.bool b)=>(match op with| .not=>some (.bool (!b))|_=>none)|some a=>bif scal a then(match prun E.P (Op.unary op a)with|some v=>bif flat v then some v else none|none=>none)else none|none=>none)
 | .convert s d x=>(match ρ x with|some v=>zU E A s d v|none=>none)
 | .makeInterface t x=>(match und E t,ρ x with|some (.interface _),_=>none|some _,some v=>some (.iface t v)|_,_=>none)
 | .makeFunc fn first captured=>bif Fn.still fn then(match mapO ρ first.toList,mapO ρ captured.toList with|some a,some b=>some (.func fn ⟨a⟩ ⟨b⟩)|_,_=>none)else none
 | .slice t x lo hi mx=>(match ρ x,optA ρ lo,optA ρ hi,optA ρ mx with|some v,some l,some h,some m=>sliA E t v l h m|_,_,_,_=>none)
 | .fieldAddr t x f=>(match ρ x with|some v=>fldA E t v f|none=>none)
 | .field t x f=>(match ρ x with|some v=>oL E t v f|none=>none)
 | .indexAddr t x i=>(match ρ x,ρ i with|some a,some b=>idxB E t a b|_,_=>none)
 | .index t x i=>(match ρ x,ρ i with|some a,some b=>k6 E t a b|_,_=>none)
 | .lookup t x i cok=>(match ρ x,ρ i with|some a,some b=>fX E A t a b cok|_,_=>none)
 | .load t a=>(match ρ a with|some v=>vJ E A t v|none=>none)
 | .extract t i=>(match ρ t with|some (.tuple ⟨vs⟩)=>nth vs i|_=>none)
 | .typeAssert x _ t cok=>(match ρ x with|some v=>qy E v t cok|none=>none)
 | .call c=>(match c.callee with| .builtin b=>jN E A ρ b c ty|_=>none)
 |_=>none
theorem j6{a :Type}{l:Array a}{x: a}{r:List a}(h:l.toList=x::r):l[0]? =some x:=by rw[<-Ir,h];rfl
theorem u9(O:E.Ok)(R:Rel E.P σ A w)(l:OpR σ ρ ρ'){b:Builtin}{c:Call}{cs:Array Bool}
 (h:jN E A ρ b c ty=some v):∃ v',(builtin b c.argTypes ty cs (c.args.map ρ')).run E.P w=.ok (.value v') w/\VR σ v v':=by
 unfold jN at h;split at h;split at h;rename_i x r t ts J S;split at h;rename_i u z;have U:(c.args.map ρ')[0]? =some (ρ' x):=by rw[Array.getElem?_map,j6 J];rfl
 obtain⟨D,C⟩:=len_ok O R (ty:=ty) (l x u z) h (j6 S) U;exact⟨v,by simp[builtin,D],bI C σ⟩;cases h;cases h;split at h;rename_i vs p;cases q:vs.all scal;rw[q]at h;simp at h;rw[q]at h;simp only[D']at h;obtain⟨D,C⟩:=eW (σ:=σ) h w;have e:c.args.map ρ'=⟨vs⟩:=by apply Hr.1;rw[IX];exact iU q (dX l p)
 exact⟨v,by simp[builtin,e,D],C⟩;cases h;split at h;rename_i vs p;cases q:vs.all scal;rw[q]at h;simp at h;rw[q]at h;simp only[D']at h;obtain⟨D,C⟩:=eW (σ:=σ) h w;have e:c.args.map ρ'=⟨vs⟩:=by apply Hr.1;rw[IX];exact iU q (dX l p)
 exact⟨v,by simp[builtin,e,D],C⟩;cases h;split at h;rename_i x J;have e:c.args.map ρ'= #[ρ' x]:=by apply Hr.1;rw[IX,J];rfl
 split at h;rename_i n k z;cases h;have s:=l x _ z;generalize ρ' x=y at e s;cases s;exact⟨_,by simp[builtin,e,Lib.run_unsafeSliceData_nil],.ptr0⟩;rename_i B i n k z;simp only[cond_eq_ite,HE,GG]at h;split at h;cases h;rename_i g;cases h;have s:=l x _ z;have I:∃ b d N H,σ B=some (b,d,N)/\ρ' x=.slice (some ⟨b,d+i,none⟩) n H/\H≠0:=by
  generalize ρ' x=y at s;cases s with
  |slice _ _ _ a M=>exact⟨_,_,_,_,a,rfl,λe=>g (.inr e)⟩
  |sliceU _ a M=>exact⟨_,_,_,_,a,rfl,λe=>g (.inl (by omega))⟩
  |sliceV _ _ _ a M=>exact⟨_,_,_,_,a,rfl,λe=>g (.inl (by omega))⟩
  |sliceE=>exact absurd (.inl rfl) g
  |gs0=>exact absurd (.inl rfl) g
  |gs lo V X Y m a M hc Z hm=>exact⟨_,_,_,_,a,rfl,λe=>g (.inl (by omega))⟩
 obtain⟨b,d,N,H,a,Q,K⟩:=I;rw[Q]at e;refine⟨_,?_,.ptr i a⟩;simp only[builtin,e,GH,Lib.run_unsafeSliceData_row w _ _ _ _ _ K,GC];rfl;cases h;cases h;cases h
theorem n8(H:E.Ok)(R:Rel E.P σ A w)(k:OpR σ ρ ρ')
 (h:bi E A ρ o.type o.op=some v):∃ v',(execOp ρ' o).run E.P w=.ok (.value v') w/\VR σ v v':=by
 unfold bi at h;unfold execOp;split at h;rename_i x g;rw[g];exact⟨_,rfl,k x v h⟩;rename_i x g;rw[g];exact⟨_,rfl,k x v h⟩;rename_i c a b g;rw[g];split at h;rename_i t ht;have hc:=k c _ ht;have e:ρ' c=.bool t:=by generalize ρ' c=y at hc;cases hc;rfl
 split at h;exact⟨ρ' a,by simp[e,asBool],k a v h⟩;exact⟨ρ' b,by simp[e,asBool],k b v h⟩;cases h;rename_i x g;rw[g];split at h;rename_i u C;cases Q:nnil u;rw[Q]at h;simp at h;rw[Q]at h;simp only[D',osI]at h;subst h;have J:=k x _ C;refine⟨ρ' x,?_,J⟩;simp only;generalize ρ' x=x' at J;cases J<;>first|rfl|(simp[nnil]at Q;done)|skip
 rename_i O _ _ _ _ hf J hy;cases O<;>first|rfl|(simp[nnil]at Q)
 cases h;rename_i t D g;rw[g];split at h;rename_i ps U;have hp:PRs σ ps (D.map λp=>(p.1,ρ' p.2)).toList:=by rw[IX];exact mg k U
 obtain⟨v',r,z⟩:=z9 H hp h w;exact⟨v',by simp only[GH];rw[show(D.map λ(x:Nat×Operand)=>match x with|(i,x)=>(i,ρ' x))=(D.map λp=>(p.1,ρ' p.2))from rfl,r];rfl,z⟩;cases h;rename_i op t x y yt g;rw[g];split at h;rename_i a b K I;obtain⟨v',r,z⟩:=bin_ok H (k x a K) (k y b I) h w;exact⟨v',by simp only[GH]at r ⊢;rw[r];rfl,z⟩;cases h;rename_i op S x g;rw[g];split at h;rename_i b I;split at h;cases h;have J:=k x _ I;have e:ρ' x=.bool b:=by generalize ρ' x=y at J;cases J;rfl
 exact⟨.bool (!b),by simp[e,Op.unary],.bool _⟩;cases h;rename_i a a0 K;cases N:scal a;rw[N]at h;simp at h;rw[N]at h;simp only[D']at h;obtain⟨h1,h2⟩:=eW (σ:=σ) h w;have e:=lT N (k x a K);exact⟨v,by simp[e,h1],h2⟩;cases h;rename_i s d x g;rw[g];split at h;rename_i u C;obtain⟨v',r,z⟩:=FH H R (k x u C) h;exact⟨v',by simp[r],z⟩;cases h;rename_i t x g;rw[g];split at h;cases h;rename_i d u V C hd;cases h;refine⟨.iface t (ρ' x),?_,.iface t (k x u hd)⟩;simp only[GH,Instr.makeInterface,ai H C,GC];cases d<;>first|rfl|exact absurd rfl (λe=>V _ e)
 cases h;rename_i O first q g
 rw[g];cases N:Fn.still O;rw[N]at h;simp at h;rw[N]at h;simp only[D']at h;split at h;rename_i a b K I;cases h;refine⟨.func O ⟨first.toList.map ρ'⟩ ⟨q.toList.map ρ'⟩,?_,.func O N (dX k K) (dX k I)⟩;have e1:(⟨first.toList.map ρ'⟩:Array Value)=first.map ρ':=by apply Hr.1;simp
 have e2:(⟨q.toList.map ρ'⟩:Array Value)=q.map ρ':=by apply Hr.1;simp
 rw[e1,e2];rfl;cases h;rename_i t x lo hi mx g;rw[g];split at h;rename_i u l hh m C hl X hm;obtain⟨v',r,z⟩:=sli_ok H (k x u C) h w;refine⟨v',?_,z⟩;simp only[iF k hl,iF k X,iF k hm,GH,r];rfl;cases h;rename_i t x f g;rw[g];split at h;rename_i u C;obtain⟨v',r,z⟩:=fld_ok H (k x u C) h w;exact⟨v',by simp[r],z⟩;cases h;rename_i t x f g;rw[g];split at h;rename_i u C;obtain⟨v',r,z⟩:=zL H (k x u C) h w;exact⟨v',by simp[r],z⟩;cases h;rename_i t x i g;rw[g];split at h;rename_i a b K I;obtain⟨v',r,z⟩:=Et H (k x a K) (k i b I) h w;exact⟨v',by simp[r],z⟩;cases h;rename_i t x i g;rw[g];split at h;rename_i a b K I;obtain⟨v',r,z⟩:=zv H (k x a K) (k i b I) h w;exact⟨v',by simp[r],z⟩;cases h;rename_i t x i Z g;rw[g];split at h;rename_i a b K I;obtain⟨v',r,z⟩:=vG H R (k x a K) (k i b I) h;exact⟨v',by simp[r],z⟩;cases h;rename_i t a g;rw[g];split at h;rename_i u C;obtain⟨v',r,z⟩:=zi H R (k a u C) h;exact⟨v',by simp[r],z⟩;cases h;rename_i t i g;rw[g];split at h;rename_i vs C;have J:∃ vs',ρ' t=.tuple ⟨vs'⟩/\VRs σ vs vs':=by
  have J:=k t _ C;generalize ρ' t=x' at J;cases J with
  |tuple M=>exact⟨_,rfl,M⟩
 obtain⟨vs',ex,M⟩:=J;rw[aS]at h;obtain⟨v',r,z⟩:=M.get h;have Y:(⟨vs'⟩:Array Value)[i]? =some v':=by simpa using r
 exact⟨v',by simp[Instr.extract,ex,Y],z⟩;cases h;rename_i x S t Z g;rw[g];split at h;rename_i u C;obtain⟨v',r,z⟩:=xH H (xt:=S) (k x u C) h w;exact⟨v',by simp[r],z⟩;cases h;rename_i c g;rw[g];split at h;rename_i b I;obtain⟨v',r,z⟩:=u9 H R k (cs:=c.args.map fun| .const _=>true|_=>false) h;exact⟨v',by simp only[resolve,I,GH,Hx,GC,invoke];exact r,z⟩;cases h;cases h
def quiet(E:Env)(A:AH)(ρ:Operand->Lj)(ty:TypeId)(op:Op):Lj:=
 match E.sym with
 |false=>bi E A ρ ty op
 |true=>(match symQ E ρ op with|some v=>some v|none=>(match groQ E A ρ op with|some v=>some v|none=>(match arrQ E A ρ op with|some v=>some v|none=>bi E A ρ ty op)))
theorem q8(g:E.Ok)(R:Rel E.P σ A w)(a:OpR σ ρ ρ')
 (h:quiet E A ρ o.type o.op=some v):∃ v',(execOp ρ' o).run E.P w=.ok (.value v') w/\VR σ v v':=by unfold quiet at h;split at h;exact n8 g R a h;split at h;rename_i u k;cases h;exact B8 g R a k;split at h;rename_i u k;cases h;exact EM g R a k;split at h;rename_i u k;cases h;exact Gc g R a k;exact n8 g R a h
def rep(z:Lh):Nat->Lh
 |0=>[]
 |n+1=>z++rep z n
theorem dL(z:Lh):∀ n,(rep z n).length=n*z.length
 |0=>by simp[rep]
 |n+1=>by simp[rep,dL z n,HY];omega
theorem jK{z:Lh}(h:z.all scal=true):∀ n,(rep z n).all scal=true
 |0=>rfl
 |n+1=>by simp only[rep,List.all_append,h,jK h n];rfl
theorem lW(z:Lh)(g:0<z.length):∀ (n i:Nat),i<n*z.length->(rep z n)[i]? =z[i%z.length]?
 |0,i,h=>by simp at h
 |n+1,i,h=>by simp only[rep,GX];by_cases a:i<z.length;rw[E' a,Iu a];rw[C' a,lW z g n (i-z.length) (by rw[HY]at h;omega)];congr 1;rw[Nat.mod_eq_sub_mod (Jf a)]
theorem gq(z:Array Value)(n:Nat)(a:0<z.size∨n=0):(Array.range (n*z.size)).map (λi=>z[i%z.size]!)=⟨rep z.toList n⟩:=by rcases a with a|rfl;apply Hr.1;apply Iz;intro i;by_cases h:i<n*z.size;have k:i%z.size<z.size:=Ih _ a;have:=lW z.toList (by simpa using a) n i (by simpa using h);simp only[Ib]at this;rw[this];simp[h,k];have g:=dL z.toList n;simp only[Ib]at g;rw[Hs (by simp;omega),Hs (by simp only[g];omega)];simp[rep]
def bZ (E :Env)(ρ:Operand->Lj)(op:Op):Option (AObj×(Nat->Value)):=
 match op with
 | .alloc e=>(match E.ti e with
   | some i=>(match i.zero with
     |some z=>let cs:=z.cells.toList;bif cs.all scal then some (.cells cs e,λid=>.pointer (some ⟨id,0,none⟩))else none
     |none=>none)
   |none=>none)
 | .box e x=>(match ρ x with|some v=>some (.cells v.cells.toList e,λid=>.pointer (some ⟨id,0,none⟩))|none=>none)
 | .buildSlice t len parts=>(match und E t,jQ ρ parts.toList with
   | some (.slice e),some ps=>(match E.ti e with
     | some ie=>(match ie.zero with
       | some z=>let cs:=z.cells.toList
         bif cs.all scal&&(Nat.beq cs.length ie.size&&(Nat.blt 0 ie.size&&Nat.ble (len*ie.size) 16777216))then
          (match qg (λi=>some (i*ie.size,ie.size)) (rep cs len) ps with
          |some r=>some (.cells r e,λid=>.slice (some ⟨id,0,none⟩) len len)
          |none=>none)else none
       |none=>none)
     |none=>none)
   |_,_=>none)
 | .makeSlice t l c=>(match und E t,ρ l,ρ c with
   | some (.slice e),some (.int _ l),some (.int _ c)=>(match E.ti e with
     | some ie=>(match ie.zero with
       | some z=>let cs:=z.cells.toList
         bif cs.all scal&&(Nat.beq cs.length ie.size&&(Nat.blt 0 ie.size&&(decide (0<=l)&&(decide (l<=c)&&(decide (c<=281474976710656)&&Nat.ble (ie.bytes*c.toNat) 281474976710656)))))then
          some (.cells (rep cs c.toNat) e,λid=>.slice (some ⟨id,0,none⟩) l.toNat c.toNat)else none
       |none=>none)
     |none=>none)
   |_,_,_=>none)
 | .makeMap t r=>(match r with
   |none=>some (.map [] 0,λid=>.map (some id))
   | some x=>(match und E t,ρ x with
     |some (.map _ _),some (.int _ _)=>some (.map [] 0,λid=>.map (some id))
     |_,_=>none))
 |_=>none
theorem i6{c:Lh}(h:VRs σ' c c'):OR P σ' (some (.cells ⟨c'⟩ e)) 0 0 (.cells c e):=by refine⟨⟨c'⟩,0,0,rfl,λi _ h=>by omega,λi v a=>?_,by simp,rfl⟩;obtain⟨v',k,g⟩:=h.get a;exact⟨v',by simpa using k,g⟩
theorem ny(K:E.Ok)(D:OpR σ ρ ρ'){ob:AObj}{fv:Nat->Value}(h:bZ E ρ o.op=some (ob,fv)):
 ∃ (O:Obj) (V:Nat->Value),(∀w:World,(execOp ρ' o).run E.P w=.ok (.value (V w.heap.size)) {w with heap:=w.heap.push O})/\
   (∀σ':Sig,σ.sub σ'->OR E.P σ' (some O) 0 0 ob)/\(∀(σ':Sig) (id b c:Nat),σ' id=some (b,0,c)->VR σ' (fv id) (V b))/\ob.own=true:=by
 unfold bZ at h;unfold execOp;split at h;rename_i e g;rw[g];split at h;rename_i i hi;split at h;rename_i z Q;cases J:z.cells.toList.all scal;simp only[J]at h;simp at h;simp only[J,D',osI,Gx]at h;obtain⟨rfl,rfl⟩:=h;refine⟨.cells z.cells e,λb=>.pointer (some ⟨b,0,none⟩),λw=>?_,fun σ' _=>?_,fun σ' id b c h=>?_,rfl⟩;simp[Instr.alloc,fq K hi Q,newVar,newRow];exact i6 (br J σ');have:=VR.ptr (σ:=σ') 0 h;simpa using this;cases h;cases h;rename_i e x g;rw[g];split at h;rename_i v hv;cases h;refine⟨.cells (ρ' x).cells e,λb=>.pointer (some ⟨b,0,none⟩),λw=>?_,fun σ' J=>?_,fun σ' id b c h=>?_,rfl⟩;simp[Instr.box,newVar,newRow];exact i6 ((D x v hv).mono J).cells;have:=VR.ptr (σ:=σ') 0 h;simpa using this;cases h;rename_i t a u g;rw[g];split at h;rename_i e ps R Z;split at h;rename_i s C;split at h;rename_i z Q;simp only at h;cases M:(z.cells.toList.all scal&&(Nat.beq z.cells.toList.length s.size&&(Nat.blt 0 s.size&&Nat.ble (a*s.size) 16777216)));rw[M]at h;simp at h;rw[M]at h;simp only[D']at h;simp only[f',GI,blt_eq,GK]at M;obtain⟨h1,N,h3,h4⟩:=M;have N:z.cells.size=s.size:=by have:=Gt N;simpa using this
 split at h;rename_i r hr;cases h;have hp:PRs σ ps (u.map λp=>(p.1,ρ' p.2)).toList:=by rw[IX];exact mg D Z
 obtain⟨r',g1,g2⟩:=mX hp (br (jK h1 a) σ) hr;have H:=gq z.cells a (.inl (by omega));rw[N]at H;refine⟨.cells ⟨r'⟩ e,λb=>.slice (some ⟨b,0,none⟩) a a,λw=>?_,fun σ' J=>?_,fun σ' id b c h=>?_,rfl⟩;have Y:¬ (a*s.size>2 ^ 24):=by simp;omega
 simp only[GH,Instr.buildSlice,ai K R,GC,aD K C,Sem.run_ite];rw[C' Y];have S:(u.map λ(x:Nat×Operand)=>match x with|(i,x)=>(i,ρ' x))=(u.map λp=>(p.1,ρ' p.2)):=rfl;by_cases I:a*s.size=0;have U:a=0:=by rcases Nat.mul_eq_zero.1 I with h|h<;>omega
 subst U;have e0:(Array.range 0).map (λi=>(#[]:Array Value)[i%(#[]:Array Value).size]!)=⟨[]⟩:=by apply Hr.1;simp
 simp only[rep]at g1;simp only[Nat.zero_mul,Ia,Hx,GC,S,e0,g1];simp[newRow];simp only[I,HL,GH,fq K C Q,GC,Hx,N,H,S,g1];simp[newRow];exact i6 (g2.mono J);have:=VR.slice (σ:=σ') 0 a a h (by have:a<=a*s.size:=Nat.le_mul_of_pos_right _ h3;simp[unk];omega);simpa using this;cases h;cases h;cases h;cases h;rename_i t l c g;rw[g];split at h;rename_i e k1 l0 k2 q R U hc;split at h;rename_i s C;split at h;rename_i z Q;simp only at h;cases M:(z.cells.toList.all scal&&(Nat.beq z.cells.toList.length s.size&&(Nat.blt 0 s.size&&(decide (0<=l0)&&(decide (l0<=q)&&(decide (q<=281474976710656)&&Nat.ble (s.bytes*q.toNat) 281474976710656))))));rw[M]at h;simp at h;rw[M]at h;simp only[D',osI,Gx]at h;obtain⟨rfl,rfl⟩:=h;simp only[f',GI,blt_eq,GK]at M;obtain⟨h1,N,h3,h4,h5,h6,h7⟩:=M;have N:z.cells.size=s.size:=by have:=Gt N;simpa using this
 have el:ρ' l=.int k1 l0:=by have:=D l _ U;generalize ρ' l=x at this;cases this;rfl
 have ec:ρ' c=.int k2 q:=by have:=D c _ hc;generalize ρ' c=x at this;cases this;rfl
 have H:=gq z.cells q.toNat (.inl (by omega));rw[N]at H;have wl:IntKind.i64.wrap l0=l0:=cQ (by simp[fD];omega);have wc:IntKind.i64.wrap q=q:=cQ (by simp[fD];omega);refine⟨.cells ⟨rep z.cells.toList q.toNat⟩ e,λb=>.slice (some ⟨b,0,none⟩) l0.toNat q.toNat,λw=>?_,fun σ' J=>?_,fun σ' id b c h=>?_,rfl⟩;have t1:¬ (q<0):=by omega
 have a1:(s.bytes:Int)*q<=281474976710656:=by have:((s.bytes*q.toNat:Nat):Int)<=281474976710656:=Int.ofNat_le.2 h7;rw[Int.natCast_mul,Int.toNat_of_nonneg (by omega)]at this;exact this
 have a0:(2:Int) ^ 48=281474976710656:=by decide
 have t2:¬ ((s.bytes:Int)*q>2 ^ 48):=by rw[a0];omega
 have t3:¬ (l0<0):=by omega
 have t4:¬ (l0>q):=by omega
 simp only[el,ec,GH,Instr.makeSlice,ai K R,GC,asInt,asIntOf,Hx,uM K C,wl,wc,t1,t2,t3,t4,Ik,Bool.or_false,HG,HL,run_askRoom,aD K C];by_cases I:q.toNat*s.size=0;have U:q.toNat=0:=by rcases Nat.mul_eq_zero.1 I with h|h<;>omega
 have e0:(Array.range 0).map (λi=>(#[]:Array Value)[i%(#[]:Array Value).size]!)=⟨[]⟩:=by apply Hr.1;simp
 simp only[U,Nat.zero_mul,Ia,Hx,GC,rep,e0];have e1:(Array.range 0).map (λ_=>(default:Value))=(⟨[]⟩:Array Value):=by apply Hr.1;simp
 simp[newRow,e1];simp only[I,HL,fq K C Q,GH,GC,Hx,N,H];simp[newRow];exact i6 (br (jK h1 _) σ');have:=VR.slice (σ:=σ') 0 l0.toNat q.toNat h (by simp[unk];omega);simpa using this;cases h;cases h;cases h;rename_i t r g;rw[g];have X:∀ σ':Sig,OR E.P σ' (some (.map #[] 0)) 0 0 (.map [] 0):=fun σ'=>⟨#[],rfl,.nil⟩;split at h;cases h;refine⟨.map #[] 0,λb=>.map (some b),λw=>?_,fun σ' J=>X σ',fun σ' id b c h=>.map h,rfl⟩;simp[Instr.makeMap];rename_i x;split at h;rename_i kt et k n R hx;cases h;have ex:ρ' x=.int k n:=by have:=D x _ hx;generalize ρ' x=y at this;cases this;rfl
 refine⟨.map #[] 0,λb=>.map (some b),λw=>?_,fun σ' J=>X σ',fun σ' id b c h=>.map h,rfl⟩;simp[Instr.makeMap,ex,ai K R,asInt,asIntOf];cases h;cases h
abbrev _root_.Go.HQ:=@List.size_toArray
abbrev _root_.Go.IU:=@List.take_append_of_le_length
abbrev _root_.Go.IM:=@List.take_append_drop
abbrev _root_.Go.GA:=@List.append_nil
abbrev _root_.Go.HT:=@List.mem_or_eq_of_mem_set
abbrev _root_.Go.JL:=@List.set_append_left
abbrev _root_.Go.G0:=@List.all_eq_true
abbrev _root_.Go.Gv:=@List.mem_map
abbrev _root_.Go.Jm:=@Nat.mul_one
def FU:Nat:=40
def ft(A:AH)(B o:Nat)(vs:Lh):Option AH:=
 match A.t.get B with
 | some (.cells c e)=>
   bif vs.all cellv&&(Nat.blt 0 vs.length&&Nat.ble (o+vs.length) c.length)then(match T.set FU A.t B (.cells (over c o vs) e)with|some t=>some ⟨t,A.next⟩|none=>none)else none
 |_=>none
theorem q9(R:Rel P σ A w){o:Nat}(H:VRs σ vs vs')(h:ft A B o vs=some A')(l:σ B=some (b,d,c)):
 ∃w',(storeCells ⟨b,d+o,none⟩ vs').run P w=.ok () w'/\Rel P σ A' w'/\Ext σ A w σ A' w':=by
 unfold ft at h;split at h;rename_i K e I;cases D:(vs.all cellv&&(Nat.blt 0 vs.length&&Nat.ble (o+vs.length) K.length));rw[D]at h;simp at h;rw[D]at h;simp only[D']at h;simp only[f',GI,blt_eq,GK]at D;obtain⟨h1,h2,h3⟩:=D;split at h;rename_i t S;cases h;obtain⟨b',d',c',g,r,lo,V,g1,X,J,g4,g5⟩:=R.obj B _ I rfl;rw[l]at g;cases g;have U:=H.length;have p:d+o+vs'.length<=r.size:=by
  have q:o+vs.length-1<K.length:=by omega
  obtain⟨v',k,_⟩:=J (o+vs.length-1) K[o+vs.length-1] (by simp[q]);have:d+(o+vs.length-1)<r.size:=by rcases Hc (d+(o+vs.length-1)) r.size with h|h;exact h;rw[Ha h]at k;cases k
  omega
 obtain⟨w',r1,N,M,r4,r5,Z,Y,r8⟩:=cR (P:=P) vs' 0 w b (d+o) r e lo V g1 (by omega) X (H.cellv h1);refine⟨w',r1,?_,Ext.upd I rfl l S N M r5 Z Y⟩;refine R.upd I rfl l S rfl N M ?_;rw[r4];have s:d+o+vs'.length<=r.toList.length:=by simpa using p
 refine⟨_,lo,V,rfl,λi u=>X i (by rw[HQ,bj (by simpa using p)]at u;simpa using u),λi v a=>?_,?_,g5⟩;rw[b9 h3]at a;have z:(over r.toList (d+o+0) vs').toArray[d+i]? =(over r.toList (d+o) vs')[d+i]?:=by simp
 rw[z,b9 s];by_cases Q:i<o;rw[E' Q]at a;rw[E' (by omega)];obtain⟨v',k,C⟩:=J i v a;exact⟨v',by simpa using k,C⟩;rw[C' Q]at a;rw[C' (by omega)];by_cases O:i<o+vs.length;rw[E' O]at a;rw[E' (by omega)];obtain⟨v',k,C⟩:=H.get a;exact⟨v',by rw[<-k];congr 1;omega,C⟩;rw[C' O]at a;rw[C' (by omega)];obtain⟨v',k,C⟩:=J i v a;exact⟨v',by simpa using k,C⟩;rw[HQ,bj (by simpa using p)];simpa using g4;cases h;cases h
theorem rd{a u r:Lh}(h:j+vs.length<=u.length):over (a++u++r) (a.length+j) vs=a++over u j vs++r:=by
 unfold over;have k:(a++u++r).take (a.length+j)=a++u.take j:=by rw[Hw,List.take_length_add_append,IU (by omega)]
 have g:(a++u++r).drop (a.length+j+vs.length)=u.drop (j+vs.length)++r:=by rw[Hw,Ho,List.drop_length_add_append,List.drop_append_of_le_length h]
 rw[k,g];simp[Hw]
theorem ua{u a:Value}(h:∀ x∈els,x.cells.size=sz)(l:els[i]? =some u)(s:j+vs.length<=sz)(z:a.cells.toList=over u.cells.toList j vs):
 an (els.set i a)=over (an els) (i*sz+j) vs:=by
 have p:i<els.length:=(Gw.1 l).1;have k:els[i]=u:=(Gw.1 l).2;have g:u.cells.toList.length=sz:=by simpa using h u (GO l)
 have H:els=els.take i++u::els.drop (i+1):=by rw[<-k,<-Hj p,IM]
 have D:els.set i a=els.take i++a::els.drop (i+1):=by rw[List.set_eq_take_append_cons_drop,E' p]
 have r:(an (els.take i)).length=i*sz:=by rw[av (λx q=>h x (H6 q))];simp;rw[Nat.min_eq_left (by omega)]
 rw[D,bu,aV,z,<-Hw];have C:an els=an (els.take i)++u.cells.toList++an (els.drop (i+1)):=by
  conv=>lhs;rw[H]
  rw[bu,aV,Hw]
 rw[C,<-r,rd (by rw[g];exact s)]
theorem wq(R:Rel P σ A w){off:Nat}{els2:Lh}{t:T AObj}(H:A.t.get B=some (.gro els tl e))(h:σ B=some (b,d,c))(C:VRs σ vs vs')(I:vs.all cellv=true)
 (l:off+vs.length<=(an (els++tl)).length) (he:an els2=over (an (els++tl)) off vs) (D:∀ x∈els2,x.cells.size=P.cellsOf e) (p:els2.length=(els++tl).length) (O:T.set f A.t B (.gro els2 [] e)=some t):
 ∃w',(storeCells ⟨b,d+off,none⟩ vs').run P w=.ok () w'/\Rel P σ ⟨t,A.next⟩ w'/\Ext σ A w σ ⟨t,A.next⟩ w':=by
 obtain⟨z,lo,S,g1,X,V,g4,g5,U⟩:=R.at H rfl h;have hl:=C.length;have a0:=av g4;have Q:(els++tl).length*P.cellsOf e<=c*P.cellsOf e:=Hn _ U;have g:d+off+vs'.length<=z.size:=by omega
 obtain⟨w',r1,K,J,r4,r5,Z,Y,r8⟩:=cR (P:=P) vs' 0 w b (d+off) z e lo S g1 (by omega) X (C.cellv I);refine⟨w',r1,?_,Ext.upd H rfl h O K J r5 Z Y⟩;refine R.upd H rfl h O rfl K J ?_;rw[r4];have k:d+off+vs'.length<=z.toList.length:=by simpa using g
 refine⟨_,lo,S,rfl,λi q=>X i (by rw[HQ,bj (by simpa using g)]at q;simpa using q),λi v a=>?_,by rw[GA];exact D,?_,by rw[GA,p];exact U⟩;rw[GA,he,b9 l]at a;have r:(over z.toList (d+off+0) vs').toArray[d+i]? =(over z.toList (d+off) vs')[d+i]?:=by simp
 rw[r,b9 k];by_cases N:i<off;rw[E' N]at a;rw[E' (by omega)];obtain⟨v',u,s⟩:=V i v a;exact⟨v',by simpa using u,s⟩;rw[C' N]at a;rw[C' (by omega)];by_cases M:i<off+vs.length;rw[E' M]at a;rw[E' (by omega)];obtain⟨v',u,s⟩:=C.get a;exact⟨v',by rw[<-u];congr 1;omega,s⟩;rw[C' M]at a;rw[C' (by omega)];obtain⟨v',u,s⟩:=V i v a;exact⟨v',by simpa using u,s⟩;rw[HQ,bj (by simpa using g)];simpa using g5
def nP(u v:Value)(sz j:Nat):Value:=bif Nat.beq v.cells.toList.length sz then v else .agg ⟨over u.cells.toList j v.cells.toList⟩
theorem pq{u:Value}(h:u.cells.size=sz)(l:j+v.cells.toList.length<=sz):(nP u v sz j).cells.toList=over u.cells.toList j v.cells.toList:=by
 have a:u.cells.toList.length=sz:=by simpa using h
 unfold nP;cases g:Nat.beq v.cells.toList.length sz with
 | true=>
  have g:=Gt g;have k:j=0:=by omega
  subst k;simp only[D'];unfold over;rw[HO,g,<-a,List.drop_length];simp
 |false=>rfl
def dZ(E:Env)(A:AH)(t:TypeId)(B sz i j:Nat)(v:Value):Option AH:=
 match E.ti t,A.t.get B with
 | some ti,some (.gro els tl e)=>(match E.ti e,nth (glue els tl) i with
   | some ie,some u=>bif (Nat.beq ie.size sz&&Nat.beq v.cells.toList.length ti.size)&&(v.cells.toList.all cellv&&Nat.ble (j+v.cells.toList.length) sz)then
    (match T.set FU A.t B (.gro ((glue els tl).set i (nP u v sz j)) [] e)with|some t=>some ⟨t,A.next⟩|none=>none)else none
   |_,_=>none)
 |_,_=>none
theorem pY(Q:E.Ok)(R:Rel E.P σ A w)(k:σ B=some (b,d,c))(S:VR σ v v')(h:dZ E A t B sz i j v=some A'):
 ∃w',(Instr.storeAt t (.pointer (some ⟨b,d+i*sz+j,none⟩)) v').run E.P w=.ok () w'/\Rel E.P σ A' w'/\Ext σ A w σ A' w':=by
 unfold dZ at h;split at h;rename_i N els tl e H U;rw[b7]at h;split at h;rename_i g u K z;rw[aS]at z;cases C:((Nat.beq g.size sz&&Nat.beq v.cells.toList.length N.size)&&(v.cells.toList.all cellv&&Nat.ble (j+v.cells.toList.length) sz));rw[C]at h;simp at h;rw[C]at h;simp only[D']at h;simp only[f',GI,GG]at C;obtain⟨⟨rfl,hn⟩,M,I⟩:=C;split at h;rename_i t2 Y;cases h;have r:E.P.cellsOf e=g.size:=by simp[Program.cellsOf,Q.ti _ _ K]
 obtain⟨ca,lo,hi,g1,g2,g3,s,g5,g6⟩:=R.at U rfl k;rw[r]at s;have a:=s u (GO z);have J:i<(els++tl).length:=(Gw.1 z).1;have p:=pq a I;have l:=ua s z I p;have a0:=av s;have q:(i+1)*g.size<=(els++tl).length*g.size:=Hn _ J;rw[Je]at q;obtain⟨w',O,X,V⟩:=wq R U k S.cells M (by omega) l (λx D=>by
  rw[r];rcases HT D with D|rfl;exact s x D;have:(nP u v g.size j).cells.toList.length=g.size:=by rw[p,bj (by simpa[a]using I)];simpa using a
  simpa using this) (by simp) Y
 refine⟨w',?_,X,V⟩;have hl:=S.cells.length;have Z:v'.cells.size=N.size:=by simp at hl hn;omega
 rw[<-Ho]at O;simp[Instr.storeAt,Instr.sureAddr,storeVar,aD Q H,Z,O];cases h;cases h;cases h
theorem xK(R:Rel P σ A w){off:Nat}{rest els2 g:Lh}{t:T AObj}(J:A.t.get B=some (.arr els rest n e))(p:σ B=some (b,d,c))(I:VRs σ vs vs')(K:vs.all cellv=true)
 (h0:0<vs.length) (u:off+vs.length<=(els++rest).length) (he:els2++g=over (els++rest) off vs) (z:els2.length=n) (U:T.set f A.t B (.arr els2 g n e)=some t):
 ∃w',(storeCells ⟨b,d+off,none⟩ vs').run P w=.ok () w'/\Rel P σ ⟨t,A.next⟩ w'/\Ext σ A w σ ⟨t,A.next⟩ w':=by
 obtain⟨⟨r,lo,V,g1,X,M,g4,g5⟩,g6⟩:=R.at J rfl p;have hl:=I.length;have k:d+off+vs'.length<=r.size:=by
  have q:off+vs.length-1<(els++rest).length:=by omega
  obtain⟨v',l,_⟩:=M (off+vs.length-1) (els++rest)[off+vs.length-1] (Gq q);have:d+(off+vs.length-1)<r.size:=by rcases Hc (d+(off+vs.length-1)) r.size with h|h;exact h;rw[Ha h]at l;cases l
  omega
 obtain⟨w',r1,O,N,r4,r5,Z,Y,r8⟩:=cR (P:=P) vs' 0 w b (d+off) r e lo V g1 (by omega) X (I.cellv K);refine⟨w',r1,?_,Ext.upd J rfl p U O N r5 Z Y⟩;refine R.upd J rfl p U rfl O N ?_;rw[r4];have s:d+off+vs'.length<=r.toList.length:=by simpa using k
 refine⟨⟨_,lo,V,rfl,λi C=>X i (by rw[HQ,bj (by simpa using k)]at C;simpa using C),λi v a=>?_,by rw[HQ,bj (by simpa using k)];simpa using g4,g5⟩,z⟩;rw[he,b9 u]at a;have D:(over r.toList (d+off+0) vs').toArray[d+i]? =(over r.toList (d+off) vs')[d+i]?:=by simp
 rw[D,b9 s];by_cases S:i<off;rw[E' S]at a;rw[E' (by omega)];obtain⟨v',l,H⟩:=M i v a;exact⟨v',by simpa using l,H⟩;rw[C' S]at a;rw[C' (by omega)];by_cases Q:i<off+vs.length;rw[E' Q]at a;rw[E' (by omega)];obtain⟨v',l,H⟩:=I.get a;exact⟨v',by rw[<-l];congr 1;omega,H⟩;rw[C' Q]at a;rw[C' (by omega)];obtain⟨v',l,H⟩:=M i v a;exact⟨v',by simpa using l,H⟩
def jf (E:Env)(A:AH)(t:TypeId)(a v:Value):Option AH:=
 match a with
 | .pointer (some ⟨B,o,none⟩)=>(match A.t.get B with
   | some (.arr els rest n e)=>(match E.ti t with
     | some ti=>(match Nat.ble n o with
       | true=>bif (Nat.beq v.cells.toList.length ti.size&&v.cells.toList.all cellv)&&(Nat.blt 0 v.cells.toList.length&&Nat.ble (o-n+v.cells.toList.length) rest.length)then
        (match T.set FU A.t B (.arr els (over rest (o-n) v.cells.toList) n e)with|some t=>some ⟨t,A.next⟩|none=>none)else none
       | false=>bif (Nat.beq v.cells.toList.length ti.size&&v.cells.toList.all cellv)&&(Nat.beq o 0&&Nat.beq v.cells.toList.length n)then
        (match T.set FU A.t B (.arr v.cells.toList rest n e)with|some t=>some ⟨t,A.next⟩|none=>none)else none)
     |none=>none)
   |_=>none)
 | .func (.yield sz) ⟨[.pointer (some ⟨B,0,none⟩)]⟩ ⟨[.int .i64 i,.int .i64 j,.bool true]⟩=>(match A.t.get B with
   | some (.arr els rest n e)=>(match E.ti t,v.cells.toList with
     | some ti,[x]=>bif (Nat.beq sz 1&&Nat.beq j.toNat 0)&&((Nat.beq ti.size 1&&cellv x)&&Nat.blt i.toNat n)then
      (match T.set FU A.t B (.arr (els.set i.toNat x) rest n e)with|some t=>some ⟨t,A.next⟩|none=>none)else none
     |_,_=>none)
   | some (.cells c e)=>(match E.ti t with
     |some ti=>bif (Nat.beq sz 1&&Nat.beq j.toNat 0)&&(Nat.beq ti.size 1&&Nat.beq v.cells.toList.length 1)then ft A B i.toNat v.cells.toList else none
     |none=>none)
   |_=>none)
 |_=>none
theorem yD{c:Lh}(h:i<c.length):over c i [x]=c.set i x:=by unfold over;rw[List.set_eq_take_append_cons_drop,E' h];simp
theorem qz(ok:E.Ok)(R:Rel E.P σ A w){a:Value}(ha:VR σ a a')(Y:VR σ v v')(h:jf E A t a v=some A'):
 ∃w',(Instr.storeAt t a' v').run E.P w=.ok () w'/\Rel E.P σ A' w'/\Ext σ A w σ A' w':=by
 have D:=Y.cells.length;unfold jf at h;split at h;rename_i B o;cases ha with
 | @ptr _ b d c o' hσ=>
  split at h;rename_i els k n e M;have I:=R.at M rfl hσ;obtain⟨_,l⟩:=id I;split at h;rename_i C z
  have X:∀ {s p:Lh}{Z:AH},((Nat.beq v.cells.toList.length C.size&&v.cells.toList.all cellv)=true)->0<v.cells.toList.length->o+v.cells.toList.length<=(els++k).length->s++p=over (els++k) o v.cells.toList->s.length=n->
   (match T.set FU A.t B (.arr s p n e)with|some t=>some (⟨t,A.next⟩:AH)|none=>none)=some Z->∃ w',(Instr.storeAt t (.pointer (some ⟨b,d+o,none⟩)) v').run E.P w=.ok () w'/\Rel E.P σ Z w'/\Ext σ A w σ Z w':=by
   intro s p Z h1 h0 h2 h3 h4 h5
   split at h5
   · rename_i t2 ht
     cases h5
     simp only[f',GG]at h1
     obtain⟨w',Q,O,N⟩:=xK R M hσ Y.cells h1.2 h0 h2 h3 h4 ht
     refine⟨w',?_,O,N⟩
     have V:v'.cells.size=C.size:=by simp at D h1;omega
     simp[Instr.storeAt,Instr.sureAddr,storeVar,aD ok z,V,Q]
   · cases h5
  split at h;rename_i J;rw[GI]at J;cases g:(Nat.beq v.cells.toList.length C.size&&v.cells.toList.all cellv)&&(Nat.blt 0 v.cells.toList.length&&Nat.ble (o-n+v.cells.toList.length) k.length);rw[g]at h;simp at h;rw[g]at h;simp only[D']at h;rw[f',f' (a:=Nat.blt _ _),GI,HN]at g;obtain⟨K,a2,H⟩:=g;have:=X K a2 (by rw[Gr];omega) (by have:=rd (a:=els) (u:=k) (r:=[]) (vs:=v.cells.toList) (j:=o-n) H;rw[GA,GA,l,show n+(o-n)=o by omega]at this;exact this.symm) l h
  exact this;rename_i J;cases g:(Nat.beq v.cells.toList.length C.size&&v.cells.toList.all cellv)&&(Nat.beq o 0&&Nat.beq v.cells.toList.length n);rw[g]at h;simp at h;rw[g]at h;simp only[D']at h;rw[f',f' (a:=Nat.beq o 0),GG,GG]at g;obtain⟨K,rfl,H⟩:=g;have a3:0<n:=by rcases Nat.eq_zero_or_pos n with q|q;subst q;simp at J;exact q
  have:=X K (by omega) (by rw[Gr];omega) (by unfold over;rw[HO,H,<-l,List.drop_left];simp) H h
  exact this;cases h;cases h
 rename_i sz B i j;cases ha with
 |func fn hf=>simp[Fn.still]at hf
 | @gp _ b d c _ i j hσ=>
  simp only[Gs]at h;split at h;rename_i els k n e M;have I:=R.at M rfl hσ;obtain⟨_,l⟩:=id I;split at h;rename_i C x z hx;cases g:(Nat.beq sz 1&&Nat.beq j 0)&&((Nat.beq C.size 1&&cellv x)&&Nat.blt i n);rw[g]at h;simp at h;rw[g]at h;simp only[D']at h;simp only[f',GG,HN]at g;obtain⟨⟨rfl,rfl⟩,⟨U,a1⟩,a4⟩:=g;split at h;rename_i t2 ht;cases h;have S:=Y.cells;rw[hx]at S D;obtain⟨w',Q,O,N⟩:=xK R M hσ S (by simp[a1]) (by simp) (off:=i) (by rw[Gr];simp;omega) (by rw[yD (by rw[Gr];omega),JL _ _ (by omega)]) (by simpa using l) ht
  refine⟨w',?_,O,N⟩;have V:v'.cells.size=C.size:=by simp at D;omega
  have e0:d+i*1+0=d+i:=by omega
  rw[e0];simp[Instr.storeAt,Instr.sureAddr,storeVar,aD ok z,V,Q];cases h;cases h;rename_i cs e M;split at h;rename_i C z;cases g:(Nat.beq sz 1&&Nat.beq j 0)&&(Nat.beq C.size 1&&Nat.beq v.cells.toList.length 1);rw[g]at h;simp at h;rw[g]at h;simp only[D']at h;simp only[f',GG]at g;obtain⟨⟨rfl,rfl⟩,U,a0⟩:=g;obtain⟨w',Q,O,N⟩:=q9 R Y.cells h hσ;refine⟨w',?_,O,N⟩;have V:v'.cells.size=C.size:=by simp at D a0;omega
  have e0:d+i*1+0=d+i:=by omega
  rw[e0];simp[Instr.storeAt,Instr.sureAddr,storeVar,aD ok z,V,Q];cases h;cases h
 cases h
def jz(E:Env)(A:AH)(t:TypeId)(a v:Value):Option AH:=
 match a with
 | .pointer (some ⟨B,o,none⟩)=>(match E.ti t with
   |some i=>let vs:=v.cells.toList;bif Nat.beq vs.length i.size then ft A B o vs else none
   |none=>none)
 | .func (.yield sz) ⟨[.pointer (some ⟨B,0,none⟩)]⟩ ⟨[.int .i64 i,.int .i64 j,.bool true]⟩=>dZ E A t B sz i.toNat j.toNat v
 |_=>none
theorem uz(p:E.Ok)(R:Rel E.P σ A w){a:Value}(q:VR σ a a')(l:VR σ v v')(h:jz E A t a v=some A'):
 ∃w',(Instr.storeAt t a' v').run E.P w=.ok () w'/\Rel E.P σ A' w'/\Ext σ A w σ A' w':=by
 unfold jz at h;split at h;rename_i B o;cases q with
 | ptr I g=>
  rename_i b d c;split at h;rename_i i D;simp only at h;cases k:Nat.beq v.cells.toList.length i.size;rw[k]at h;simp at h;rw[k]at h;simp only[D']at h;have k:=Gt k;obtain⟨w',u,s,r⟩:=q9 R l.cells h g;refine⟨w',?_,s,r⟩;have C:=l.cells.length;have z:v'.cells.size=i.size:=by simp at C k;omega
  simp[Instr.storeAt,Instr.sureAddr,storeVar,aD p D,z,u];cases h
 rename_i sz B i j;cases q with
 |func J H=>simp[Fn.still]at H
 | @gp _ b d c _ i j g=>simp only[Gs]at h;exact pY p R g l h
 cases h
def iA(E:Env)(A:AH)(t:TypeId)(a v:Value):Option AH:=match jz E A t a v with|some r=>some r|none=>jf E A t a v
theorem yf(g:E.Ok)(R:Rel E.P σ A w){a:Value}(l:VR σ a a')(k:VR σ v v')(h:iA E A t a v=some A'):
 ∃w',(Instr.storeAt t a' v').run E.P w=.ok () w'/\Rel E.P σ A' w'/\Ext σ A w σ A' w':=by unfold iA at h;split at h;rename_i r p;cases h;exact uz g R l k p;exact qz g R l k h
def srcA(A:AH)(size:Nat)(x:Value):Option (Nat×Lh):=
 match x with
 | .slice none n k=>bif Nat.beq n 0 then some (0,[])else none
 | .slice (some ⟨B,o,none⟩) n k=>bif Nat.beq n 0 then some (0,[])else(match fY A B o (n*size)with
   |some l=>bif l.all cellv then some (n,l)else none
   |none=>none)
 | .string s=>bif Nat.beq size 1 then some (s.size,s.data.toList.map λb=>.int .u8 b.toNat)else none
 |_=>none
theorem dm{o:Nat}{l:Lh}(h:fY A B o n=some l):l.length=n:=by unfold fY at h;split at h;simp only at h;rename_i c g;cases a:Nat.beq ((c.drop o).take n).length n;rw[a]at h;simp at h;rw[a]at h;simp only[D',osI]at h;subst h;exact Gt a;cases h
theorem Ay(R:Rel P σ A w){size:Nat}(r:VR σ x x')(h:srcA A size x=some (n,news)){N:TypeId}
 (C:(∃e',P.underlying N=some (.slice e'))∨P.underlying N=some .string):∃ q,VRs σ news q/\Src P size N x' n q w/\news.length=n*size/\news.all cellv=true:=by
 unfold srcA at h;split at h;rename_i M k;cases p:Nat.beq M 0;rw[p]at h;simp at h;rw[p]at h;simp only[D',osI,Gx]at h;obtain⟨rfl,rfl⟩:=h;obtain rfl:=Gt p;cases r;exact⟨[],.nil,⟨C,λ_=>rfl,rfl,rfl,by simp,by simp⟩,by simp,rfl⟩;rename_i B o M k;cases p:Nat.beq M 0 with
 | true=>
  rw[p]at h;simp only[D',osI,Gx]at h;obtain⟨rfl,rfl⟩:=h;obtain rfl:=Gt p;have z:∃ a' H,x'=.slice a' 0 H:=by cases r<;>exact⟨_,_,rfl⟩
  obtain⟨a',H,rfl⟩:=z;cases a' with
  |none=>exact⟨[],.nil,⟨C,λ_=>rfl,rfl,rfl,by simp,by simp⟩,by simp,rfl⟩
  |some a'=>exact⟨[],.nil,⟨C,λ_=>rfl,by simp[Builtin.firstCells,loadCells,loadCellsFrom],by simp[Builtin.firstCells,loadCells,loadCellsFrom],by simp,by simp⟩,by simp,rfl⟩
 | false=>
  rw[p]at h;simp only[GN]at h;have I:=aX p;split at h;rename_i l S;cases J:l.all cellv;rw[J]at h;simp at h;rw[J]at h;simp only[D',osI,Gx]at h;obtain⟨rfl,rfl⟩:=h;have z:∃ b d c H,σ B=some (b,d,c)/\x'=.slice (some ⟨b,d+o,none⟩) M H:=by
   cases r with
   |slice Y O Q g C=>exact⟨_,_,_,_,g,rfl⟩
   |sliceU O g hn=>exact⟨_,_,_,_,g,rfl⟩
   |sliceV Y O Q g hn=>exact⟨_,_,_,_,g,rfl⟩
   |sliceE a a' Q=>exact absurd rfl I
   |gs0=>exact absurd rfl I
   |gs lo o' O Q m g C J ho hm=>exact⟨_,_,_,_,g,rfl⟩
  obtain⟨b,d,c,H,g,rfl⟩:=z;obtain⟨X,U,V⟩:=cY R S g;exact⟨X,U,⟨C,λ_=>rfl,V w rfl,V w.drew rfl,by rw[U.length,dm S],U.cellv J⟩,dm S,J⟩;cases h
 rename_i s;cases p:Nat.beq size 1;rw[p]at h;simp at h;rw[p]at h;simp only[D',osI,Gx]at h;obtain⟨rfl,rfl⟩:=h;obtain rfl:=Gt p;cases r;have K:(s.data.toList.map λb=>Value.int .u8 b.toNat).all scal=true:=by rw[G0];intro x r;obtain⟨_,_,rfl⟩:=Gv.1 r;rfl
 have D:(s.data.toList.map λb=>Value.int .u8 b.toNat).all cellv=true:=by rw[G0];intro x r;obtain⟨_,_,rfl⟩:=Gv.1 r;rfl
 refine⟨_,br K σ,⟨C,λ_=>rfl,firstCells_string s w,firstCells_string s w.drew,?_,?_⟩,?_,D⟩;have:=byteCells_length s;unfold byteCells at this;rw[this,Jm];intro u Z;obtain⟨_,_,rfl⟩:=Gv.1 Z;rfl;have:=byteCells_length s;unfold byteCells at this;rw[this,Jm];cases h
abbrev _root_.Go.I7:=@List.drop_zero
abbrev _root_.Go.IN:=@Array.getElem?_append
abbrev _root_.Go.Iv:=@Option.getD_some
abbrev _root_.Go.JM:=@Nat.le_of_eq
abbrev _root_.Go.JS:=@Nat.mul_assoc
def cO(A:AH)(o:AObj):Option AH:=
 match T.set FU A.t A.next o with|some t=>some ⟨t,A.next+1⟩|none=>none
def cM:TypeDesc->Bool
 | .slice _| .string=>true
 |_=>false
def eE (E : Env) (A:AH)(ts:List TypeId)(s x:Value):Option (Value×AH):=
 match ts with
 | [t, tx] => (match und E t,und E tx with
   | some (.slice e),some dx=>(match E.ti e with
     | some ie => (match ie.zero,srcA A ie.size x with
       | some z, some (n,news)=>
         bif cM dx&&(Nat.beq z.cells.toList.length ie.size&&Nat.blt 0 ie.size)then
         (match s with
         | .slice none sl sk=>
           bif Nat.beq sl 0&&Nat.beq sk 0 then
            bif Nat.beq n 0 then some (s,A)
            else bif Nat.ble n 70368744177664&&Nat.ble (n*ie.bytes) 140737488355328 then
             (match cO A (.cells news e)with|some A'=>some (.slice (some ⟨A.next,0,none⟩) n unk,A')|none=>none)else none
           else none
         | .slice (some ⟨B,o,none⟩) sl sk=>
           bif Nat.beq n 0 then bif Nat.ble unk sk||Nat.ble sl sk then some (s,A)else none
           else bif Nat.ble (sl+n) 70368744177664&&Nat.ble ((sl+n)*ie.bytes) 140737488355328 then
            bif Nat.blt sk unk then
             bif Nat.ble (sl+n) sk then(match ft A B (o+sl*ie.size) news with|some A'=>some (.slice (some ⟨B,o,none⟩) (sl+n) sk,A')|none=>none)
             else(match(bif Nat.beq sl 0 then some []else fY A B o (sl*ie.size))with
              |some olds=>(match cO A (.cells (olds++news) e)with|some A'=>some (.slice (some ⟨A.next,0,none⟩) (sl+n) unk,A')|none=>none)
              |none=>none)
            else bif Nat.beq sk unk then
             (match A.t.get B with
             | some (.cells c eb)=>bif Nat.beq eb e&&Nat.ble (sl*ie.size) c.length then
               (match T.set FU A.t B .dead with
               | some t'=>(match T.set FU t' A.next (.cells (c.take (sl*ie.size)++news) e)with
                 |some t''=>some (.slice (some ⟨A.next,0,none⟩) (sl+n) unk,⟨t'',A.next+1⟩)
                 |none=>none)
               |none=>none)else none
             |_=>none)
            else none
           else none
         |_=>none)else none
       |_,_=>none)
     |none=>none)
   |_,_=>none)
 |_=>none
theorem tq{c:Lh}(h:look A B=some c)(k:n<=c.length):fY A B 0 n=some (c.take n):=by
 unfold fY;rw[h];have a:(c.take n).length=n:=by simp;omega
 have g:Nat.beq (c.take n).length n=true:=by rw[a];simp
 simp only[I7,g,D']
theorem fK(z:Array Value)(n:Nat):(Builtin.zeroCells z n).size=n*z.size:=by simp[Builtin.zeroCells]
theorem yH{c:Lh}{g:TypeInfo}{z:Value}{cap a:Nat}(u:P.info? e=some g)(q:z.cells.size=g.size)(s:c'.length=a*g.size)(l:a<=cap)(h:VRs σ' c c'):
 OR P σ' (some (.cells (c'.toArray++Builtin.zeroCells z.cells (cap-a)) e)) 0 cap (.cells c e):=by refine⟨_,0,0,rfl,λi _ h=>by omega,λi v r=>?_,?_,rfl⟩;obtain⟨v',p,C⟩:=h.get r;refine⟨v',?_,C⟩;have k:i<c'.length:=(Gw.1 p).1;rw[HO,IN,E' (by simpa using k)];simpa using p;rw[Array.size_append,fK,q,HQ,s];simp only[Program.cellsOf,u,Hz,Iv,HO];rw[<-HY];exact JM (by congr 1;omega)
theorem pb(ok:E.Ok)(R:Rel E.P σ A w){s:Value}(hs:VR σ s s')(hx:VR σ x x')(h:eE E A ts.toList s x=some (v,A')):
    ∃v' w' σ',(Builtin.append_ ts ty #[s',x']).run E.P w=.ok v' w'/\VR σ' v v'/\Rel E.P σ' A' w'/\Ext σ A w σ' A' w':=by
  unfold eE at h;split at h;rename_i t tx e4;obtain rfl:ts= #[t,tx]:=by cases ts;simp_all
  split at h;rename_i e dx hu d6;split at h;rename_i q e0;split at h;rename_i z n news hz c3;cases hb:(cM dx&&(Nat.beq z.cells.toList.length q.size&&Nat.blt 0 q.size));rw[hb]at h;simp at h;rw[hb]at h;simp only[D']at h;simp only[f',blt_eq,GK]at hb;obtain⟨b1,b2,b3⟩:=hb;have b2:z.cells.size=q.size:=by have:=Gt b2;simpa using this
  have Q:=cg ok hu;have hi:=ok.ti _ _ e0;have M:(∃e',E.P.underlying tx=some (.slice e'))∨E.P.underlying tx=some .string:=by have:=cg ok d6;cases dx<;>simp[cM]at b1;exact .inr this;exact .inl ⟨_,this⟩
  obtain⟨k,r,hS,a2,e3⟩:=Ay R hx c3 M
  have Y:∀ (O:Option Addr) (sl I:Nat) (H g:Lh) (A0:AH),Rel E.P σ A0 w->A0.next=A.next->
      VRs σ H g->H.length=sl*q.size->(Builtin.firstCells q.size sl (.slice O sl I)).run E.P w.drew=.ok g.toArray w.drew->
      I<sl+n->sl+n<=70368744177664->(sl+n)*q.bytes<=140737488355328->∀ Z,T.set FU A0.t A.next (.cells (H++news) e)=some Z->
      (∃ J:Nat,sl+n<=J/\∃ w':World,(Builtin.append_ #[t,tx] ty #[.slice O sl I,x']).run E.P w=.ok (.slice (some ⟨w.heap.size,0,none⟩) (sl+n) J) w'/\
        Rel E.P (upd σ A.next (w.heap.size,0,J)) ⟨Z,A.next+1⟩ w'/\Ext σ A0 w (upd σ A.next (w.heap.size,0,J)) ⟨Z,A.next+1⟩ w'):=by
    intro O sl I H g A0 R0 c6 ho S c5 d1 e5 f1 Z u
    have d5:Builtin.nextslicecap (sl+n) I*q.bytes<=281474976710656:=by
      have h1:=Room.nextslicecap_le' d1
      calc Builtin.nextslicecap (sl+n) I*q.bytes<=2*(sl+n)*q.bytes:=Hn _ h1
        _=2*((sl+n)*q.bytes):=JS _ _ _
        _<=281474976710656:=by omega
    have a8:=run_append_grow_src w t tx ty e q z Q hi hz O sl I g c5 x' n k hS d1 (by omega) d5
    have c1:=grownCap_ge w (sl+n) I e
    generalize grownCap w (sl+n) I e=J at a8 c1
    refine⟨J,c1,_,a8,?_,?_⟩
    · rw[<-c6]at u ⊢
      refine R0.alloc (ob:=.cells ((g++k).toArray++Builtin.zeroCells z.cells (J-(sl+n))) e) u (R0.fresh _ (GE _)) (It _) (IR _) ?_ rfl
      refine yH hi b2 ?_ c1 (((ho.mono (cj (R0.fresh _ (GE _))))).append (r.mono (cj (R0.fresh _ (GE _)))))
      rw[Gr,ho.length,S,r.length,a2,HY]
    · rw[<-c6]at u ⊢
      exact Ext.alloc R0 u (IR _) (ob:=.cells ((g++k).toArray++Builtin.zeroCells z.cells (J-(sl+n))) e) rfl rfl rfl rfl
  split at h;rename_i sl I;cases hs;cases hb:(Nat.beq sl 0&&Nat.beq I 0);rw[hb]at h;simp at h;rw[hb]at h;simp only[D']at h;simp only[f']at hb;obtain⟨e1,e2⟩:=hb;obtain rfl:=Gt e1;obtain rfl:=Gt e2;cases K:Nat.beq n 0 with
  | true=>
   rw[K]at h;simp only[D',osI,Gx]at h;obtain⟨rfl,rfl⟩:=h;obtain rfl:=Gt K;have U:k=[]:=by have:=r.length;rw[a2]at this;simpa using this
   subst U;exact⟨_,w,σ,run_append_nothing w t tx ty e q Q hi none 0 0 (GE _) x' hS,.slice0 _ _,R,Ext.refl _ _ _⟩
  | false=>
   rw[K]at h;simp only[GN]at h;have d9:=aX K;cases C:(Nat.ble n 70368744177664&&Nat.ble (n*q.bytes) 140737488355328);rw[C]at h;simp at h;rw[C]at h;simp only[D',cO]at h;simp only[f',GI]at C;cases u:T.set FU A.t A.next (.cells news e)with
   |none=>simp[u]at h
   |some Z=>simp only[u,osI,Gx]at h;obtain⟨rfl,rfl⟩:=h;obtain⟨J,g1,w',g2,g3,g4⟩:=Y none 0 0 [] [] A R rfl .nil (by simp) (by simp[Builtin.firstCells]) (by omega) (by omega) (by simpa using C.2) Z (by simpa using u);refine⟨_,w',_,g2,?_,g3,g4⟩;simp only[HO]at g1 ⊢;exact .sliceU n bG g1
  rename_i B o sl I;cases K:Nat.beq n 0 with
  | true=>
   rw[K]at h;simp only[D']at h;cases C:(Nat.ble unk I||Nat.ble sl I)with
   |false=>rw[C]at h;simp at h
   |true=>
   rw[C]at h;simp only[D',osI,Gx]at h;obtain⟨rfl,rfl⟩:=h;obtain rfl:=Gt K;have U:k=[]:=by have:=r.length;rw[a2]at this;simpa using this
   subst U;have c0:∃ a' kk,s'=.slice a' sl kk/\sl<=kk:=by
    cases hs with
    |slice i' n' k' p e9=>simp only[HE,GI]at C;exact⟨_,_,rfl,by omega⟩
    |sliceU n' p K=>exact⟨_,_,rfl,K⟩
    |sliceV i' n' k' p K=>exact⟨_,_,rfl,K⟩
    |sliceE a a' k'=>exact⟨_,_,rfl,IF _⟩
    |gs0=>exact⟨_,_,rfl,IF _⟩
    |gs lo o' n' k' m p M hc ho hm=>exact⟨_,_,rfl,M⟩
   obtain⟨a',kk,rfl,c0⟩:=c0;exact⟨_,w,σ,run_append_nothing w t tx ty e q Q hi a' sl kk c0 x' hS,hs,R,Ext.refl _ _ _⟩
  | false=>
   rw[K]at h;simp only[GN]at h;have d9:=aX K;cases C:(Nat.ble (sl+n) 70368744177664&&Nat.ble ((sl+n)*q.bytes) 140737488355328);rw[C]at h;simp at h;rw[C]at h;simp only[D']at h;simp only[f',GI]at C;have a3:∀ (a':Addr) (kk:Nat),(Builtin.firstCells q.size sl (.slice (some a') sl kk))=loadCells a' (sl*q.size):=λ_ _=>rfl;cases a4:Nat.blt I unk with
   | true=>
    rw[a4]at h;simp only[D']at h;rw[blt_eq,GK]at a4;have V:∃ b d c,σ B=some (b,d,c)/\s'=.slice (some ⟨b,d+o,none⟩) sl I:=by
     cases hs with
     |slice i' n' k' p M=>exact⟨_,_,_,p,rfl⟩
     |sliceU n' p K=>omega
     |sliceV i' n' k' p K=>omega
     |sliceE a a' k'=>omega
     |gs0 B o m a hm=>omega
     |gs lo o' n' k' m p M hc ho hm=>omega
    obtain⟨b,d,c,p,rfl⟩:=V;cases l:Nat.ble (sl+n) I with
    |true=>rw[l]at h;simp only[D']at h;have l:=Ic l;split at h;rename_i A2 c4;cases h;obtain⟨w',r1,r2,r3⟩:=q9 R r c4 p;refine⟨.slice (some ⟨b,d+o,none⟩) (sl+n) I,w',σ,?_,.slice o (sl+n) I p a4,r2,r3⟩;rw[<-Ho]at r1;rcases M with⟨e',M⟩|M<;>simp[Builtin.append_,IW Q,IW M,sizeOf,typeInfo,hi,hS.len,l,hS.cells,aQ,r1];cases h
    |false=>
    rw[l]at h;simp only[GN]at h;have a1:I<sl+n:=by
     have:¬ sl+n<=I:=by intro hc;rw[<-GI]at hc;rw[hc]at l;cases l
     omega
    split at h;rename_i H D;simp only[cO]at h;cases u:T.set FU A.t A.next (.cells (H++news) e)with
    |none=>simp[u]at h
    | some Z=>
     simp only[u,osI,Gx]at h;obtain⟨rfl,rfl⟩:=h;have S:∃ g,VRs σ H g/\H.length=sl*q.size/\(Builtin.firstCells q.size sl (.slice (some ⟨b,d+o,none⟩) sl I)).run E.P w.drew=.ok g.toArray w.drew:=by
      cases b0:Nat.beq sl 0 with
      |true=>rw[b0]at D;simp only[D',osI]at D;subst D;obtain rfl:=Gt b0;exact⟨[],.nil,by simp,by simp[Builtin.firstCells,loadCells,loadCellsFrom]⟩
      |false=>rw[b0]at D;simp only[GN]at D;obtain⟨l',g1,g2⟩:=cY R D p;exact⟨l',g1,dm D,g2 w.drew rfl⟩
     obtain⟨g,q1,q2,q3⟩:=S;obtain⟨J,g1,w',g2,g3,g4⟩:=Y (some ⟨b,d+o,none⟩) sl I H g A R rfl q1 q2 q3 a1 C.1 C.2 Z u;exact⟨_,w',_,g2,.sliceU (sl+n) bG g1,g3,g4⟩
    cases h
   |false=>
   rw[a4]at h;simp only[GN]at h;cases b4:Nat.beq I unk;rw[b4]at h;simp at h;rw[b4]at h;simp only[D']at h;obtain rfl:=Gt b4;have V:∃ b d c,σ B=some (b,d,c)/\o=0/\s'=.slice (some ⟨b,d,none⟩) sl c/\sl<=c:=by
    cases hs with
    |slice i' n' k' p M=>omega
    |sliceU n' p K=>exact⟨_,_,_,p,rfl,rfl,K⟩
    |gs0 B o m a hm=>omega
    |gs lo o' n' k' m p M hc ho hm=>omega
   obtain⟨b,d,c,p,rfl,rfl,e6⟩:=V;split at h;rename_i cs eb hg;cases a5:(Nat.beq eb e&&Nat.ble (sl*q.size) cs.length);rw[a5]at h;simp at h;rw[a5]at h;simp only[D']at h;simp only[f',GI]at a5;obtain⟨h3,h4⟩:=a5;obtain rfl:=Gt h3;split at h;rename_i t1 a0;split at h;rename_i Z u;cases h;obtain⟨b',d',c',a6,ca,lo,d3,g1,g2,g3,g4,g5⟩:=R.obj B _ hg rfl;rw[p]at a6;cases a6;have X:E.P.cellsOf eb=q.size:=by simp[Program.cellsOf,hi]
   rw[X]at g4;by_cases l:sl+n<=c;have d0:(sl+n)*q.size<=c*q.size:=Hn _ l;have a9:k.length=n*q.size:=by rw[r.length,a2]
   have b5:d+sl*q.size+k.length<=ca.size:=by rw[a9];rw[HY]at d0;omega
   obtain⟨w',r1,r2,r3,r4,r5,r6,r7,r8⟩:=cR (P:=E.P) k 0 w b (d+sl*q.size) ca eb lo d3 g1 (by omega) g2 (r.cellv e3);have a7:σ.sub (upd σ A.next (b,d,c)):=cj (R.fresh _ (GE _));refine⟨.slice (some ⟨b,d,none⟩) (sl+n) c,w',upd σ A.next (b,d,c),?_,.sliceU (sl+n) bG l,?_,Ext.move R hg rfl p a0 u r2 r3 r5 r6 r7⟩;rcases M with⟨e',M⟩|M<;>simp[Builtin.append_,IW Q,IW M,sizeOf,typeInfo,hi,hS.len,l,hS.cells,aQ,r1];refine R.move hg rfl p a0 u rfl r2 r3 ?_;rw[r4];have c2:d+sl*q.size+k.length<=ca.toList.length:=by simpa using b5
   refine⟨_,lo,d3,rfl,λi d2=>g2 i (by rw[HQ,bj (by simpa using b5)]at d2;simpa using d2),λi v N=>?_,?_,g5⟩;have d4:(over ca.toList (d+sl*q.size+0) k).toArray[d+i]? =(over ca.toList (d+sl*q.size) k)[d+i]?:=by simp
   rw[d4,b9 c2];rw[GX]at N;have d7:(cs.take (sl*q.size)).length=sl*q.size:=by simp;omega
   rw[d7]at N;by_cases k1:i<sl*q.size;rw[E' k1,GW,E' k1]at N;rw[E' (by omega)];obtain⟨v',e1,e2⟩:=g3 i v N;exact⟨v',by simpa using e1,e2.mono a7⟩;rw[C' k1]at N;rw[C' (by omega)];have f0:i-sl*q.size<news.length:=(Gw.1 N).1;rw[E' (by rw[a9];omega)];obtain⟨v',e1,e2⟩:=r.get N;have ei:d+i-(d+sl*q.size)=i-sl*q.size:=by omega
   exact⟨v',by rw[ei];exact e1,e2.mono a7⟩;rw[HQ,bj (by simpa using b5),X];simpa using g4;have S:∃ g,VRs σ (cs.take (sl*q.size)) g/\(Builtin.firstCells q.size sl (.slice (some ⟨b,d,none⟩) sl c)).run E.P w.drew=.ok g.toArray w.drew:=by have hl:fY A B 0 (sl*q.size)=some (cs.take (sl*q.size)):=tq (by unfold look;rw[hg]) h4;obtain⟨l',q1,q2⟩:=cY R hl p;exact⟨l',q1,by rw[a3];have:=q2 w.drew rfl;simpa using this⟩
   obtain⟨g,q1,q3⟩:=S;have q2:(cs.take (sl*q.size)).length=sl*q.size:=by simp;omega
   obtain⟨J,k1,w',k2,k3,k4⟩:=Y (some ⟨b,d,none⟩) sl c _ g ⟨t1,A.next⟩ (R.dead a0) rfl q1 q2 q3 (by omega) C.1 C.2 Z u;exact⟨_,w',_,k2,.sliceU (sl+n) bG k1,k3,(Ext.dead a0).trans k4⟩;cases h;cases h;cases h
  cases h;cases h;cases h;cases h;cases h
abbrev _root_.Go.HU:=@Array.getElem?_setIfInBounds
theorem ERs.get:∀ {l:Lc}{l':List MapEntry},ERs σ l l'->∀ {i:Nat}{x},l[i]? =some x->∃ e,l'[i]? =some e/\ER σ x e
 |_,_,.nil,i,x,h=>by simp at h
 | _,_,.cons hv t,i,x,h=>by
  cases i with
  |zero=>simp at h;subst h;exact⟨_,by simp,hv⟩
  |succ i=>simp at h;obtain⟨v',g,a⟩:=t.get h;exact⟨v',by simpa using g,a⟩
theorem ERs.append:∀ {l m:Lc}{l' a:List MapEntry},ERs σ l l'->ERs σ m a->ERs σ (l++m) (l'++a)
 |_,_,_,_,.nil,h=>h
 |_,_,_,_,.cons hv t,h=>.cons hv (t.append h)
theorem ERs.set:∀ {l:Lc}{l':List MapEntry}(n:Nat) {x e},ERs σ l l'->ER σ x e->ERs σ (l.set n x) (l'.set n e)
 |_,_,_,_,_,.nil,_=>.nil
 |_,_,0,_,_,.cons _ t,h=>.cons h t
 |_,_,n+1,_,_,.cons hv t,h=>.cons hv (t.set n h)
theorem ERs.erase:∀ {l:Lc}{l':List MapEntry}(n:Nat),ERs σ l l'->ERs σ (l.eraseIdx n) (l'.eraseIdx n)
 |_,_,_,.nil=>.nil
 |_,_,0,.cons _ t=>t
 |_,_,n+1,.cons hv t=>.cons hv (t.erase n)
theorem dJ{o o2:Obj}(h:w.heap[b]? =some o)(a:∀ c e f,o≠ .cells c e f):(setObj b o2).run P w=.ok () {w with heap:=w.heap.setIfInBounds b o2}:=by unfold setObj;cases o<;>first|exact absurd rfl (a _ _ _)|simp[Sem.run,h]
def setA(A:AH)(B:Nat)(o:AObj):Option AH:=match T.set FU A.t B o with|some t=>some ⟨t,A.next⟩|none=>none
theorem nN(R:Rel P σ A w){o:AObj}{ob a:Obj}(D:A.t.get B=some o)(C:o.own=true)(r:o2.own=true)(k:σ B=some (b,d,c))(g:setA A B o2=some A')
 (l:w.heap[b]? =some ob) (q:OR P σ (some a) d c o2):
 Rel P σ A' {w with heap:=w.heap.setIfInBounds b a}/\Ext σ A w σ A' {w with heap:=w.heap.setIfInBounds b a}:=by
 unfold setA at g;split at g;rename_i t z;cases g;have u:b<w.heap.size:=by rcases Hc b w.heap.size with h|h;exact h;rw[Ha h]at l;cases l
 have I:(w.heap.setIfInBounds b a).size=w.heap.size:=by simp
 have H:∀ p,p≠b->(w.heap.setIfInBounds b a)[p]? =w.heap[p]?:=λp s=>by rw[HU];rw[C' (λe=>s e.symm)]
 have J:(w.heap.setIfInBounds b a)[b]? =some a:=by rw[HU];simp[u]
 exact⟨R.upd D C k z r I H (by simp only[J];exact q),Ext.upd D C k z I H rfl rfl rfl⟩;cases g
def fV (E:Env)(A:AH)(t:TypeId)(m k v:Value):Option AH:=
 match und E t,m with
 | some (.map kt et),.map (some B)=>(match A.t.get B with
   | some (.map es clock)=>bif flat k&&eZ E false kt k then
     (match iu E kt k es with
     |some none=>setA A B (.map (es++[(k,v,clock)]) (clock+1))
     | some (some (i,_))=>(match nth es i with
       |some (key,_,born)=>bif Instr.sameBits 10000 key k then setA A B (.map (es.set i (k,v,born)) clock)else none
       |none=>none)
     |none=>none)else none
   |_=>none)
 |_,_=>none
theorem ot(z:E.Ok)(R:Rel E.P σ A w){m k Y l:Value}(hm:VR σ m Y)(hk:VR σ k l)(Z:VR σ v v')(h:fV E A t m k v=some A'):
 ∃w',(Instr.mapUpdate t Y l v').run E.P w=.ok () w'/\Rel E.P σ A' w'/\Ext σ A w σ A' w':=by
 unfold fV at h;split at h;rename_i Q et B hu;split at h;rename_i es a V;cases K:(flat k&&eZ E false Q k);rw[K]at h;simp at h;rw[K]at h;simp only[D']at h;simp only[f']at K;obtain⟨hf,D⟩:=K;obtain rfl:=cZ hf hk;obtain⟨b,d,c,g,h1,I,M⟩:=oq R V;cases hm with
 | map p=>
  rw[p]at h1;cases h1;obtain⟨f1,f2⟩:=qe z M (kt:=Q) (k:=l) w;have H:=dK (P:=E.P) I (by simp);split at h;rename_i s;have r:∀ dd X,OR E.P σ (some (.map (g.push {key:=l,val:=v',born:=a}) (a+1))) dd X (.map (es++[(l,v,a)]) (a+1)):=λ_ _=>⟨_,rfl,by rw[Array.toList_push];exact M.append (.cons ⟨rfl,Z,rfl⟩ .nil)⟩;obtain⟨O,N⟩:=nN R V rfl rfl p h I (r _ _);refine⟨_,?_,O,N⟩;simp[Instr.mapUpdate,ai z hu,H,kX z D,f1 s,dJ I (by simp)];rename_i i u s;obtain⟨u',g1,g2⟩:=f2 i u s;rw[aS]at h;split at h;rename_i key vv born hi;cases q:Instr.sameBits 10000 key l;rw[q]at h;simp at h;rw[q]at h;simp only[D']at h;obtain⟨e,e1,e2,e3,e4⟩:=M.get hi;simp only at e2 e3 e4;have J:g[i]? =some e:=by simpa using e1
  have C:(g.modify i λe=>{e with key:=l,val:=v'}).toList=g.toList.set i {e with key:=l,val:=v'}:=by apply Iz;intro j;rw[Ir,JF,Hm];by_cases hj:i=j;subst hj;have S:i<g.toList.length:=(Gw.1 e1).1;simp only[Ia,J,S];rfl;simp[hj]
  have r:∀ dd X,OR E.P σ (some (.map (g.modify i λe=>{e with key:=l,val:=v'}) a)) dd X (.map (es.set i (l,v,born)) a):=λ_ _=>⟨_,rfl,by rw[C];exact M.set i ⟨rfl,Z,e4⟩⟩;obtain⟨O,N⟩:=nN R V rfl rfl p h I (r _ _);refine⟨_,?_,O,N⟩;have U:(Instr.keyThatStays (((g[i]?).map (·.key)).getD l) l).run E.P w=.ok l w:=by rw[J];simp only[Hz,Iv,e2,Instr.keyThatStays,q,Ia];rfl
  simp only[Instr.mapUpdate,GH,ai z hu,GC,H,kX z D,g1,U];exact dJ I (by simp);cases h;cases h
 cases h;cases h
def delA (E:Env)(A:AH)(ts:List TypeId)(m k:Value):Option AH:=
 match ts with
 | t :: _ =>(match und E t with
   | some (.map kt et)=>bif flat k then(match m with
     | .map none=>bif eZ E true kt k then some A else none
     | .map (some B)=>(match A.t.get B with
       | some (.map es clock)=>bif eZ E es.isEmpty kt k then
         (match iu E kt k es with
         |some none=>setA A B (.map es clock)
         |some (some (i,_))=>setA A B (.map (es.eraseIdx i) clock)
         |none=>none)else none
       |_=>none)
     |_=>none)else none
   |_=>none)
 |_=>none
theorem del_ok(p:E.Ok)(R:Rel E.P σ A w){m k m' I:Value}(D:as[0]? =some m')(C:as[1]? =some I)(hm:VR σ m m')(hk:VR σ k I)(h:delA E A ts.toList m k=some A'):
 ∃w',(Builtin.delete_ ts ty as).run E.P w=.ok (.tuple #[]) w'/\Rel E.P σ A' w'/\Ext σ A w σ A' w':=by
 unfold delA at h;split at h;rename_i t a0 V;have r:=j6 V;split at h;rename_i M et U;cases Y:flat k;rw[Y]at h;simp at h;rw[Y]at h;simp only[D']at h;obtain rfl:=cZ Y hk;split at h;cases hm;cases g:eZ E true M I;rw[g]at h;simp at h;rw[g]at h;simp only[D',osI]at h;subst h;exact⟨w,by simp[Builtin.delete_,r,D,C,ai p U,kX p g],R,Ext.refl _ _ _⟩;rename_i B;split at h;rename_i O a X;obtain⟨b,d,c,H,h1,K,N⟩:=oq R X;cases hm with
 | map q=>
  rw[q]at h1;cases h1;cases g:eZ E O.isEmpty M I;rw[g]at h;simp at h;rw[g]at h;simp only[D']at h;obtain⟨f1,f2⟩:=qe p N (kt:=M) (k:=I) w;have J:=dK (P:=E.P) K (by simp);have l:H.isEmpty=O.isEmpty:=by rw[<-N.isEmpty];simp[Array.isEmpty,List.isEmpty_iff,HA]
  split at h;rename_i z;have s:∀ dd Z,OR E.P σ (some (.map H a)) dd Z (.map O a):=λ_ _=>⟨_,rfl,N⟩;obtain⟨S,Q⟩:=nN R X rfl rfl q h K (s _ _);refine⟨_,?_,S,Q⟩;simp[Builtin.delete_,r,D,C,ai p U,J,l,kX p g,f1 z,dJ K (by simp)];rename_i i u z;obtain⟨u',g1,g2⟩:=f2 i u z;have s:∀ dd Z,OR E.P σ (some (.map (H.eraseIdxIfInBounds i) a)) dd Z (.map (O.eraseIdx i) a):=λ_ _=>⟨_,rfl,by rw[Array.toList_eraseIdxIfInBounds];exact N.erase i⟩;obtain⟨S,Q⟩:=nN R X rfl rfl q h K (s _ _);refine⟨_,?_,S,Q⟩;simp[Builtin.delete_,r,D,C,ai p U,J,l,kX p g,g1,dJ K (by simp)];cases h
 cases h;cases h;cases h;cases h
def xj (E :Env)(A:AH)(ts:List TypeId)(x:Value):Option AH:=
 match ts with
 | t :: _ =>(match und E t with
   | some (.slice e)=>(match x with
     | .slice none _ _=>some A
     | .slice (some ⟨B,o,none⟩) n k=>bif Nat.beq n 0 then some A else(match E.ti e with
       | some ie=>(match ie.zero with
         |some z=>bif z.cells.toList.all scal&&Nat.blt 0 z.cells.toList.length then ft A B o (rep z.cells.toList n)else none
         |none=>none)
       |none=>none)
     |_=>none)
   | some (.map _ _)=>(match x with
     | .map none=>some A
     | .map (some B)=>(match A.t.get B with|some (.map es clock)=>setA A B (.map [] clock)|_=>none)
     |_=>none)
   |_=>none)
 |_=>none
theorem z5(u:E.Ok)(R:Rel E.P σ A w)(p:as[0]? =some x')(I:VR σ x x')(h:xj E A ts.toList x=some A'):
 ∃w',(Builtin.clear_ ts ty as).run E.P w=.ok (.tuple #[]) w'/\Rel E.P σ A' w'/\Ext σ A w σ A' w':=by
 unfold xj at h;split at h;rename_i t a0 S;have l:=j6 S;split at h;rename_i e C;split at h;cases I;cases h;exact⟨w,by simp[Builtin.clear_,l,p,ai u C],R,Ext.refl _ _ _⟩;rename_i B o n k;cases D:Nat.beq n 0 with
 | true=>
  rw[D]at h;simp only[D',osI]at h;subst h;obtain rfl:=Gt D;have r:∃ a' H,x'=.slice a' 0 H:=by cases I<;>exact⟨_,_,rfl⟩
  obtain⟨a',H,rfl⟩:=r;cases a'<;>exact⟨w,by simp[Builtin.clear_,l,p,ai u C],R,Ext.refl _ _ _⟩
 | false=>
  rw[D]at h;simp only[GN]at h;have s:=aX D;split at h;rename_i ie V;split at h;rename_i z hz;cases J:(z.cells.toList.all scal&&Nat.blt 0 z.cells.toList.length);rw[J]at h;simp at h;rw[J]at h;simp only[D']at h;simp only[f',blt_eq,GK]at J;have r:∃ b d c H,σ B=some (b,d,c)/\x'=.slice (some ⟨b,d+o,none⟩) n H:=by
   cases I with
   |slice i' N O g hk=>exact⟨_,_,_,_,g,rfl⟩
   |sliceU N g D=>exact⟨_,_,_,_,g,rfl⟩
   |sliceV i' N O g D=>exact⟨_,_,_,_,g,rfl⟩
   |sliceE a a' O=>exact absurd rfl s
   |gs0=>exact absurd rfl s
   |gs lo o' N O m g hk hc ho hm=>exact⟨_,_,_,_,g,rfl⟩
  obtain⟨b,d,c,H,g,rfl⟩:=r;obtain⟨w',M,K,r3⟩:=q9 R (br (jK J.1 n) σ) h g;refine⟨w',?_,K,r3⟩;have Q:(Builtin.zeroCells z.cells n).toList=rep z.cells.toList n:=by have:=gq z.cells n (.inl (by simpa using J.2));unfold Builtin.zeroCells;rw[this]
  cases n with
  |zero=>exact absurd rfl s
  |succ n=>simp[Builtin.clear_,l,p,ai u C,fq u V hz,Q,M]
  cases h;cases h
 cases h;rename_i kt et C;split at h;cases I;cases h;exact⟨w,by simp[Builtin.clear_,l,p,ai u C],R,Ext.refl _ _ _⟩;rename_i B;split at h;rename_i es q Y;obtain⟨b,d,c,a1,Z,X,h3⟩:=oq R Y;cases I with
 |map g=>rw[g]at Z;cases Z;have U:∀ dd cc,OR E.P σ (some (.map #[] q)) dd cc (.map [] q):=λ_ _=>⟨_,rfl,.nil⟩;obtain⟨M,K⟩:=nN R Y rfl rfl g h X (U _ _);refine⟨_,?_,M,K⟩;simp[Builtin.clear_,l,p,ai u C,dK (P:=E.P) X (by simp),dJ X (by simp)]
 cases h;cases h;cases h;cases h
def zT(E:Env)(A:AH)(ts:List TypeId)(dst src:Value):Option (Value×AH):=bif E.sym then none else none
theorem ox{a:Option Addr}{k:Nat}(h:VR σ (.slice a n k) x'):∃ a' g,x'=.slice a' n g:=by cases h<;>exact⟨_,_,rfl⟩
theorem xe(l:E.Ok)(R:Rel E.P σ A w)(k:as[0]? =some x')(g:as[1]? =some y')(q:VR σ x x')(p:VR σ y y')(h:zT E A ts.toList x y=some (v,A')):
 ∃w',(Builtin.copy_ ts ty as).run E.P w=.ok v w'/\flat v=true/\Rel E.P σ A' w'/\Ext σ A w σ A' w':=by unfold zT at h;cases a:E.sym<;>rw[a]at h<;>cases h
def s2bA(E:Env)(A:AH)(src dst:TypeId)(x:Value):Option (Value×AH):=bif E.sym then none else none
theorem s2b_ok(l:E.Ok)(R:Rel E.P σ A w){a g:TypeId}(p:VR σ x x')(h:s2bA E A a g x=some (v,A')):
 ∃v' w' σ',(convert a g x').run E.P w=.ok v' w'/\VR σ' v v'/\Rel E.P σ' A' w'/\Ext σ A w σ' A' w':=by unfold s2bA at h;cases k:E.sym<;>rw[k]at h<;>cases h
def uZ(E:Env)(A:AH)(t:TypeId)(x:Value):Option (Value×AH):=bif E.sym then none else none
theorem yq(g:E.Ok)(R:Rel E.P σ A w)(k:VR σ x x')(h:uZ E A t x=some (v,A')):
 ∃v' w' σ',(Instr.range t x').run E.P w=.ok v' w'/\VR σ' v v'/\Rel E.P σ' A' w'/\Ext σ A w σ' A' w':=by unfold uZ at h;cases a:E.sym<;>rw[a]at h<;>cases h
def C6(A:AH)(it:Value)(isString:Bool):Option (Value×AH):=bif isString then none else none
theorem C5(l:E.Ok)(R:Rel E.P σ A w){g a:Value}{b:Bool}(p:VR σ g a)(h:C6 A g b=some (v,A')):
 ∃v' w',(Instr.next a b ty).run E.P w=.ok v' w'/\VR σ v v'/\Rel E.P σ A' w'/\Ext σ A w σ A' w':=by unfold C6 at h;cases k:b<;>rw[k]at h<;>cases h
abbrev _root_.Go.Hq:=@List.map_cons
abbrev _root_.Go.GS:=@List.mem_append
abbrev _root_.Go.Hy:=@List.drop_eq_nil_of_le
abbrev _root_.Go.Hd:=@List.length_take
abbrev _root_.Go.I8:=@List.length_drop
theorem xu(h:cellv v=true):v.cells.toList=[v]:=by cases v<;>simp_all [cellv,Value.oneCell',Value.cells]
def eJ(agg:Bool)(sz:Nat):Nat->Lh->Lh
 |0,_=>[]
 | k+1,l=>(match agg with
   |true=>.agg ⟨l.take sz⟩
   |false=>(match l with|v::_=>v| []=>undef))::eJ agg sz k (l.drop sz)
theorem gL{agg:Bool}{sz:Nat}(p:agg=true∨sz=1):∀ (k:Nat) (l:Lh),l.length=k*sz->l.all cellv=true->an (eJ agg sz k l)=l/\(∀x∈eJ agg sz k l,x.cells.size=sz)/\(eJ agg sz k l).length=k
 |0,l,h,_=>by have:l=[]:=GY (by simpa using h);subst this;exact⟨rfl,λx a=>by simp[eJ]at a,rfl⟩
 | k+1,l,h,hc=>by
  rw[Je]at h;have hd:(l.drop sz).length=k*sz:=by simp;omega
  have q:(l.drop sz).all cellv=true:=by rw[G0]at hc ⊢;exact λx a=>hc x (H7 a)
  obtain⟨H,D,C⟩:=gL p k (l.drop sz) hd q;have g:∃ u:Value,eJ agg sz (k+1) l=u::eJ agg sz k (l.drop sz)/\u.cells.toList=l.take sz:=by
   cases agg with
   |true=>exact⟨.agg ⟨l.take sz⟩,rfl,rfl⟩
   |false=>
   have p:sz=1:=by simpa using p
   subst p;cases l with
   |nil=>simp at h
   |cons v r=>refine⟨v,rfl,?_⟩;simp only[IT,f']at hc;simpa using xu hc.1
  obtain⟨u,I,s⟩:=g;have z:u.cells.size=sz:=by
   have:u.cells.toList.length=sz:=by rw[s];simp;omega
   simpa using this
  rw[I];refine⟨by rw[aV,s,H,IM],λx a=>?_,by simp[C]⟩;rcases Gz.1 a with rfl|a;exact z;exact D x a
def srcG(E:Env)(A:AH)(e:TypeId)(sz:Nat)(x:Value):Option Lh:=
 match x with
 | .func (.yield sz') ⟨els⟩ ⟨[]⟩=>bif Nat.beq sz' sz then some els else none
 | .slice none n _=>bif Nat.beq n 0 then some []else none
 | .slice (some ⟨B,o,none⟩) n m=>(match isG m with
   | true=>(match A.t.get B with
     | some (.gro els tl e2)=>(match E.ti e2 with
       |some ie=>bif (Nat.beq ie.size sz&&Nat.beq (gsz m) sz)&&(Nat.blt 0 sz&&Nat.ble (n+gLo sz o) (glue els tl).length)then some (((glue els tl).drop (gLo sz o)).take n)else none
       |none=>none)
     |_=>none)
   | false=>(match fY A B o (n*sz),und E e with
     |some l,some d=>bif (Nat.blt m (unk+2)&&l.all cellv)&&(bp d||Nat.beq sz 1)then some (eJ (bp d) sz n l)else none
     |_,_=>none))
 | .string s=>bif Nat.beq sz 1 then some (s.data.toList.map λb=>.int .u8 b.toNat)else none
 |_=>none
theorem uN{o:Nat}{l:Lh}(h:∀ (j:Nat) v,l[j]? =some v->w.cell? ⟨b,o+j,none⟩=some v)(w':World)(a:w'.heap=w.heap):(loadCells ⟨b,o,none⟩ l.length).run P w'=.ok l.toArray w':=
 I0 w' ⟨b,o,none⟩ l (λj v g=>by rw[aQ];have:=h j v g;unfold World.cell? at this ⊢;rw[a];exact this)
theorem ub(h:∀ x∈els,x.cells.size=sz)(a n:Nat):∀ x∈(els.drop a).take n,x.cells.size=sz:=λx g=>h x (H7 (H6 g))
theorem Cr(ok:E.Ok)(R:Rel E.P σ A w)(N:VR σ x x')(h:srcG E A e sz x=some news)(a0:(an news).all cellv=true){V:TypeId}
 (Q:(∃e',E.P.underlying V=some (.slice e'))∨E.P.underlying V=some .string):∃ g,VRs σ (an news) g/\Src E.P sz V x' news.length g w/\(∀u∈news,u.cells.size=sz):=by
 have mk:∀ (b o J n:Nat) (g:Lh),VRs σ (an news) g->(∀u∈news,u.cells.size=sz)->news.length=n->(∀(j:Nat) v,g[j]? =some v->w.cell? ⟨b,o+j,none⟩=some v)->
  Src E.P sz V (.slice (some ⟨b,o,none⟩) n J) news.length g w:=by
  intro b o J n g D C U S
  subst U
  have O:g.length=news.length*sz:=by rw[D.length,av C]
  have H:=λw' hw=>uN (P:=E.P) S w' hw
  rw[O]at H
  exact⟨Q,λ_=>rfl,H w rfl,H w.drew rfl,O,D.cellv a0⟩
 have r:∀ (a:Option Addr) (J:Nat),news=[]->∃ g,VRs σ (an news) g/\Src E.P sz V (.slice a 0 J) news.length g w/\(∀u∈news,u.cells.size=sz):=by
  intro a J U;subst U;cases a with
  |none=>exact⟨[],.nil,⟨Q,λ_=>rfl,rfl,rfl,by simp,by simp⟩,by simp⟩
  |some a'=>exact⟨[],.nil,⟨Q,λ_=>rfl,by simp[Builtin.firstCells,loadCells,loadCellsFrom],by simp[Builtin.firstCells,loadCells,loadCellsFrom],by simp,by simp⟩,by simp⟩
 unfold srcG at h;split at h;rename_i a4 els;cases q:Nat.beq a4 sz;rw[q]at h;cases h;rw[q]at h;obtain rfl:=Gt q;simp only[D',osI]at h;subst h;cases N with
 |func fn hf=>simp[Fn.still]at hf
 | @dat b o k _ e0 fz c _ hro C hk0 hc=>
  refine⟨_,hc,mk b o k _ _ hc C rfl (λj v D=>?_),C⟩;rw[GW]at D;split at D;rw[GV]at D;have:c[o+j]? =some v:=by simpa using D
  simp[World.cell?,R.ro b _ hro,this];cases D
 |datN=>exact r none 0 rfl
 |datE _ a k=>exact r (some a) k rfl
 rename_i n k;cases q:Nat.beq n 0;rw[q]at h;cases h;rw[q]at h;obtain rfl:=Gt q;simp only[D',osI]at h;cases N;exact r none k h.symm;rename_i B o n m;split at h;rename_i hg;split at h;rename_i a2 a3 e2 hB;rw[b7]at h;generalize hE:a2++a3=els at h;split at h;rename_i ie a8;cases q:(Nat.beq ie.size sz&&Nat.beq (gsz m) sz)&&(Nat.blt 0 sz&&Nat.ble (n+gLo sz o) els.length);rw[q]at h;cases h;rw[q]at h;simp only[D',osI]at h;simp only[f',GG,HN,GI]at q;obtain⟨⟨C,Z⟩,X,a6⟩:=q;rcases cb N hg with⟨rfl,a,rfl⟩|⟨b,d,c,lo,k,p,rfl,U,hc,rfl⟩;exact r a 0 (by rw[<-h];simp);rw[Z,k8 X]at h a6;have a9:E.P.cellsOf e2=sz:=by simp[Program.cellsOf,ok.ti _ _ a8,C]
 obtain⟨c',l0,h0,M,g2,g3,g4,g5,g6⟩:=R.at hB rfl p;rw[hE]at g3 g4 g6;rw[a9]at g4 g5;have z:=ub g4 lo n;rw[h]at z;have K:news.length=n:=by rw[<-h];simp;omega
 have b0:an news=((an els).drop (lo*sz)).take (n*sz):=by rw[<-h,bS lo g4,cf n (λx N=>g4 x (H7 N))]
 have Y:(lo+n)*sz<=c*sz:=Hn _ (by omega);rw[HY]at Y;have D:VRs σ (an news) ((c'.toList.drop (d+lo*sz)).take (n*sz)):=by refine VRs.of_get ?_ λj v I=>?_;rw[av z,K];simp;omega;rw[b0,GW]at I;split at I;rename_i a7;rw[GV]at I;obtain⟨v',e1,e2⟩:=g3 (lo*sz+j) v I;refine⟨v',?_,e2⟩;rw[GW,E' a7,GV,Ho];simpa using e1;cases I
 refine⟨_,D,?_,z⟩;rw[Z];refine mk b (d+lo*sz) k n _ D z K λj v I=>?_;rw[GW]at I;split at I;rw[GV]at I;have:c'[d+lo*sz+j]? =some v:=by simpa using I
 simp[World.cell?,M,this];cases I;cases h;cases h;rename_i hg;split at h;rename_i l dd O hu;cases q:(Nat.blt m (unk+2)&&l.all cellv)&&(bp dd||Nat.beq sz 1)with
 |false=>rw[q]at h;cases h
 | true=>
  rw[q]at h;simp only[D',osI]at h;simp only[f',HE,GG,HN]at q;obtain⟨⟨hm,b1⟩,hz⟩:=q;obtain⟨h1,h2,h3⟩:=gL hz n l (dm O) b1;rw[h]at h1 h2 h3;have a1:∃ b d c J,σ B=some (b,d,c)/\x'=.slice (some ⟨b,d+o,none⟩) n J:=by
   cases N with
   |slice i' n' k' p Q=>exact⟨_,_,_,_,p,rfl⟩
   |sliceU n' p U=>exact⟨_,_,_,_,p,rfl⟩
   |sliceV i' n' k' p U=>exact⟨_,_,_,_,p,rfl⟩
   |sliceE a a' k'=>omega
   |gs0 B o m a a5=>omega
   |gs lo o' n' k' m p Q hc ho a5=>omega
  obtain⟨b,d,c,J,p,rfl⟩:=a1;obtain⟨l',M,g2⟩:=cY R O p;rw[<-h1]at M;refine⟨l',M,⟨Q,λ_=>by rw[h3];rfl,?_,?_,by rw[M.length,av h2],M.cellv a0⟩,h2⟩;rw[h3];exact g2 w rfl;rw[h3];exact g2 w.drew rfl
 cases h;rename_i s;cases q:Nat.beq sz 1;rw[q]at h;cases h;rw[q]at h;simp only[D',osI]at h;obtain rfl:=Gt q;have h1:∀ u∈news,u.cells.size=1:=by rw[<-h];intro u hu;obtain⟨_,_,rfl⟩:=Gv.1 hu;rfl
 have h2:∀ l:List UInt8,an (l.map λb=>Value.int .u8 b.toNat)=l.map λb=>Value.int .u8 b.toNat:=by
  intro l;induction l with
  |nil=>rfl
  |cons x l ih=>rw[Hq,aV,ih];rfl
 obtain⟨g,M,g2,g3,_⟩:=Ay R N (size:=1) (n:=s.size) (news:=news) (by rw[<-h];rfl) Q;have O:news.length=s.size:=by rw[g3,Jm]
 refine⟨g,?_,?_,h1⟩;rw[<-h,h2,h];exact M;rw[O];exact g2;cases h
def oG (E : Env)(A:AH)(ts:List TypeId)(B o n m:Nat)(x:Value):Option (Value×AH):=
 match ts with
 | [t, tx] => (match und E t,und E tx with
   | some (.slice e),some dx=>(match E.ti e,A.t.get B with
     | some ie,some (.gro els tl eb)=>(match ie.zero,srcG E A e ie.size x with
       | some z,some news=>
         bif (cM dx&&(Nat.beq z.cells.toList.length ie.size&&Nat.blt 0 ie.size))&&(Nat.beq eb e&&(Nat.beq (gsz m) ie.size&&isG m))then
          bif ((an news).all cellv&&Nat.beq (n+gLo ie.size o) (glue els tl).length)&&(Nat.ble (n+news.length) 70368744177664&&Nat.ble ((n+news.length)*ie.bytes) 140737488355328)then
           (match T.set FU A.t B .dead with
           | some t'=>(match T.set FU t' A.next (.gro ((glue els tl).drop (gLo ie.size o)) news e)with
             |some t''=>some (.slice (some ⟨A.next,0,none⟩) (n+news.length) m,⟨t'',A.next+1⟩)
             |none=>none)
           |none=>none)
          else none
         else none
       |_,_=>none)
     |_,_=>none)
   |_,_=>none)
 |_=>none
theorem te{a:TypeInfo}{z:Value}{cap:Nat}(C:P.info? e=some a)(r:z.cells.size=a.size)(g:∀ x∈els++tl,x.cells.size=a.size)(l:(els++tl).length<=cap)(h:VRs σ' (an (els++tl)) c'):
 OR P σ' (some (.cells (c'.toArray++Builtin.zeroCells z.cells (cap-(els++tl).length)) e)) 0 cap (.gro els tl e):=by
 have k:P.cellsOf e=a.size:=by simp[Program.cellsOf,C]
 have u:c'.length=(els++tl).length*a.size:=by rw[h.length,av g]
 refine⟨_,0,0,rfl,λi _ h=>by omega,λi v s=>?_,by rw[k];exact g,?_,l⟩;obtain⟨v',q,D⟩:=h.get s;refine⟨v',?_,D⟩;have p:i<c'.length:=(Gw.1 q).1;rw[HO,IN,E' (by simpa using p)];simpa using q;rw[Array.size_append,fK,r,HQ,u,k,HO,<-HY];exact JM (by congr 1;omega)
theorem wA(ok:E.Ok)(R:Rel E.P σ A w){o:Nat}(hs:VR σ (.slice (some ⟨B,o,none⟩) n m) s')(H:VR σ x x')(h:oG E A ts.toList B o n m x=some (v,A')):
    ∃v' w' σ',(Builtin.append_ ts ty #[s',x']).run E.P w=.ok v' w'/\VR σ' v v'/\Rel E.P σ' A' w'/\Ext σ A w σ' A' w':=by
  unfold oG at h;split at h;rename_i t tx f1;obtain rfl:ts= #[t,tx]:=by cases ts;simp_all
  split at h;rename_i e dx hu e0;split at h;rename_i g d7 d9 Y e6 hB;rw[b7]at h;generalize hE:d7++d9=els at h;split at h;rename_i z news hz c3;cases hb:(cM dx&&(Nat.beq z.cells.toList.length g.size&&Nat.blt 0 g.size))&&(Nat.beq Y e&&(Nat.beq (gsz m) g.size&&isG m));rw[hb]at h;simp at h;rw[hb]at h;simp only[D']at h;simp only[f',GG,HN]at hb;obtain⟨⟨b1,b2,b3⟩,rfl,V,hg⟩:=hb;have b2:z.cells.size=g.size:=by simpa using b2
  cases a1:((an news).all cellv&&Nat.beq (n+gLo g.size o) els.length)&&(Nat.ble (n+news.length) 70368744177664&&Nat.ble ((n+news.length)*g.bytes) 140737488355328);rw[a1]at h;simp at h;rw[a1]at h;simp only[D']at h;simp only[f',GG,GI]at a1;obtain⟨⟨d6,c0⟩,f3,f2⟩:=a1;split at h;rename_i t1 N;split at h;rename_i t2 J;cases h;have a7:=cg ok hu;have hi:=ok.ti _ _ e6;have hk:(∃e',E.P.underlying tx=some (.slice e'))∨E.P.underlying tx=some .string:=by have:=cg ok e0;cases dx<;>simp[cM]at b1;exact .inr this;exact .inl ⟨_,this⟩
  obtain⟨p,r,hS,K⟩:=Cr ok R H c3 d6 hk;have c1:E.P.cellsOf Y=g.size:=by simp[Program.cellsOf,hi]
  have a5:∀ (M:Option Addr) (Z:Nat) (C q:Lh),VRs σ (an C) q->(∀x∈C,x.cells.size=g.size)->C=els.drop (gLo g.size o)->C.length=n->
      (Builtin.firstCells g.size n (.slice M n Z)).run E.P w.drew=.ok q.toArray w.drew->Z<n+news.length->
      ∃v' w' σ',(Builtin.append_ #[t,tx] ty #[.slice M n Z,x']).run E.P w=.ok v' w'/\VR σ' (.slice (some ⟨A.next,0,none⟩) (n+news.length) m) v'/\Rel E.P σ' ⟨t2,A.next+1⟩ w'/\Ext σ A w σ' ⟨t2,A.next+1⟩ w':=by
    intro M Z C q ho c4 a9 a0 c6 d2
    have d5:Builtin.nextslicecap (n+news.length) Z*g.bytes<=281474976710656:=by
      have h1:=Room.nextslicecap_le' d2
      calc Builtin.nextslicecap (n+news.length) Z*g.bytes<=2*(n+news.length)*g.bytes:=Hn _ h1
        _=2*((n+news.length)*g.bytes):=JS _ _ _
        _<=281474976710656:=by omega
    have a2:=run_append_grow_src w t tx ty Y g z a7 hi hz M n Z q c6 x' news.length p hS d2 (by omega) d5
    have b5:=grownCap_ge w (n+news.length) Z Y
    generalize grownCap w (n+news.length) Z Y=cap at a2 b5
    have R0:Rel E.P σ ⟨t1,A.next⟩ w:=R.dead N
    have D:=cj (x:=(w.heap.size,0,cap)) (R0.fresh A.next (GE _))
    have a4:(els.drop (gLo g.size o)++news).length=n+news.length:=by rw[Gr,<-a9,a0]
    refine⟨_,_,upd σ A.next (w.heap.size,0,cap),a2,?_,?_,?_⟩
    · have I:=VR.gsMk (σ:=upd σ A.next (w.heap.size,0,cap)) (lo:=0) (n:=n+news.length) (k:=cap) (m:=m) bG hg b5 (JM (HO _))
      simpa using I
    · refine R0.alloc (ob:=.cells ((q++p).toArray++Builtin.zeroCells z.cells (cap-(n+news.length))) Y) J (R0.fresh _ (GE _)) (It _) (IR _) ?_ rfl
      have c5:=te (P:=E.P) (σ':=upd σ A.next (w.heap.size,0,cap)) (els:=els.drop (gLo g.size o)) (tl:=news) (c':=q++p) (e:=Y) (cap:=cap) hi b2 (λx H=>by
        rcases GS.1 H with H|H
        · exact c4 x (by rw[a9];exact H)
        · exact K x H) (by rw[a4];exact b5) (by rw[bu,<-a9];exact(ho.mono D).append (r.mono D))
      rw[a4]at c5
      exact c5
    · exact(Ext.dead N).trans (Ext.alloc R0 J (IR _) (ob:=.cells ((q++p).toArray++Builtin.zeroCells z.cells (cap-(n+news.length))) Y) rfl rfl rfl rfl)
  rcases cb hs hg with⟨rfl,a,rfl⟩|⟨b,d,c,lo,k,a6,rfl,hn,hc,rfl⟩;have X:els.drop (gLo g.size o)=[]:=Hy (by omega);by_cases e3:news.length=0;have d1:news=[]:=GY e3;subst d1;have b0:p=[]:=by have:=r.length;simpa[an]using this
  subst b0;rw[X]at J;obtain⟨q1,q2⟩:=Rel.nilGro (R.dead N) J;exact⟨_,w,_,run_append_nothing w t tx ty Y g a7 hi a 0 0 (GE _) x' hS,VR.gs0Mk _ _ m a hg,q1,(Ext.dead N).trans q2⟩;exact a5 a 0 [] [] .nil (by simp) X.symm rfl (by cases a<;>simp[Builtin.firstCells,loadCells,loadCellsFrom]) (by omega);rw[V,k8 b3]at c0;rw[V,k8 b3]at J;obtain⟨S,l0,h0,g1,g2,g3,g4,g5,g6⟩:=R.at hB rfl a6;rw[hE]at g3 g4 g6;rw[c1]at g4 g5;have b4:(lo+k)*g.size=lo*g.size+k*g.size:=HY _ _ _;have e9:(lo+k)*g.size<=c*g.size:=Hn _ hc;rw[b4]at e9;have f4:=av g4;have Q:(els.drop lo).length=n:=by simp;omega
  have f0:an (els.drop lo)=(an els).drop (lo*g.size):=(bS lo g4).symm;have s:∀ x∈els.drop lo,x.cells.size=g.size:=λx H=>g4 x (H7 H);have U:∀ (i:Nat) v,(an (els.drop lo))[i]? =some v->∃ v',S[d+lo*g.size+i]? =some v'/\VR σ v v':=λi v I=>by rw[f0,GV]at I;obtain⟨v',e1,e2⟩:=g3 _ v I;exact⟨v',by rw[Ho];exact e1,e2⟩
  by_cases u:n+news.length<=k;have d0:p.length=news.length*g.size:=by rw[r.length,av K]
  have a3:(n+news.length)*g.size<=k*g.size:=Hn _ u;rw[HY]at a3;have a8:d+lo*g.size+n*g.size+p.length<=S.size:=by omega
  obtain⟨w',r1,r2,r3,r4,r5,r6,r7,r8⟩:=cR (P:=E.P) p 0 w b (d+lo*g.size+n*g.size) S Y l0 h0 g1 (by omega) g2 (r.cellv d6);have D:σ.sub (upd σ A.next (b,d+lo*g.size,k)):=cj (R.fresh _ (GE _));refine⟨.slice (some ⟨b,d+lo*g.size,none⟩) (n+news.length) k,w',upd σ A.next (b,d+lo*g.size,k),?_,?_,?_,Ext.move R hB rfl a6 N J r2 r3 r5 r6 r7⟩;rw[V];rcases hk with⟨e',hk⟩|hk<;>simp[Builtin.append_,IW a7,IW hk,sizeOf,typeInfo,hi,hS.len,u,hS.cells,aQ,r1];have I:=VR.gsMk (σ:=upd σ A.next (b,d+lo*g.size,k)) (lo:=0) (n:=n+news.length) (k:=k) (m:=m) bG hg u (JM (HO _));simpa using I;refine R.move hB rfl a6 N J rfl r2 r3 ?_;rw[r4];have c2:d+lo*g.size+n*g.size+p.length<=S.toList.length:=by simpa using a8
  refine⟨_,l0,h0,rfl,λi d3=>g2 i (by rw[HQ,bj (by simpa using a8)]at d3;simpa using d3),λi v O=>?_,λx H=>?_,?_,by rw[Gr,Q];exact u⟩;have d4:(over S.toList (d+lo*g.size+n*g.size+0) p).toArray[d+lo*g.size+i]? =(over S.toList (d+lo*g.size+n*g.size) p)[d+lo*g.size+i]?:=by simp
  rw[d4,b9 c2];rw[bu,GX,av s,Q]at O;by_cases k1:i<n*g.size;rw[E' k1]at O;rw[E' (by omega)];obtain⟨v',e1,e2⟩:=U i v O;exact⟨v',by simpa using e1,e2.mono D⟩;rw[C' k1]at O;rw[C' (by omega)];have e5:i-n*g.size<(an news).length:=(Gw.1 O).1;rw[av K]at e5;rw[E' (by rw[d0];omega)];obtain⟨v',e1,e2⟩:=r.get O;have ei:d+lo*g.size+i-(d+lo*g.size+n*g.size)=i-n*g.size:=by omega
  exact⟨v',by rw[ei];exact e1,e2.mono D⟩;rw[c1];rcases GS.1 H with H|H;exact s x H;exact K x H;rw[HQ,bj (by simpa using a8),c1];have h9:S.toList.length=S.size:=by simp
  omega;have a0:VRs σ (an (els.drop lo)) ((S.toList.drop (d+lo*g.size)).take (n*g.size)):=by
   have a3:n*g.size<=k*g.size:=Hn _ hn;refine VRs.of_get (by rw[av s,Q];simp;omega) λj v I=>?_;have hj:j<n*g.size:=by have:=(Gw.1 I).1;rwa[av s,Q]at this
   obtain⟨v',e1,e2⟩:=U j v I;exact⟨v',by rw[GW,E' hj,GV];simpa using e1,e2⟩
  have e4:((S.toList.drop (d+lo*g.size)).take (n*g.size)).length=n*g.size:=by rw[a0.length,av s,Q]
  rw[V];refine a5 (some ⟨b,d+lo*g.size,none⟩) k (els.drop lo) _ a0 s (by rw[V,k8 b3]) Q ?_ (by omega);show(loadCells ⟨b,d+lo*g.size,none⟩ (n*g.size)).run E.P w.drew=_;have:=uN (P:=E.P) (w:=w) (b:=b) (o:=d+lo*g.size) (l:=(S.toList.drop (d+lo*g.size)).take (n*g.size)) (λj v I=>by
   rw[GW]at I;split at I;rw[GV]at I;have:S[d+lo*g.size+j]? =some v:=by simpa using I
   simp[World.cell?,g1,this];cases I) w.drew rfl
  rw[e4]at this;exact this;cases h;cases h;cases h;cases h;cases h;cases h
def mM(E:Env)(A:AH)(ts:List TypeId)(B o n m:Nat)(x:Value):Option (Value×AH):=bif E.sym then none else none
theorem tO(g:E.Ok)(R:Rel E.P σ A w){o:Nat}(l:VR σ (.slice (some ⟨B,o,none⟩) n m) s')(k:VR σ x x')(h:mM E A ts.toList B o n m x=some (v,A')):
 ∃v' w' σ',(Builtin.append_ ts ty #[s',x']).run E.P w=.ok v' w'/\VR σ' v v'/\Rel E.P σ' A' w'/\Ext σ A w σ' A' w':=by unfold mM at h;cases a:E.sym<;>rw[a]at h<;>cases h
theorem Rel.retell(R:Rel P σ A w){o:AObj}{t:T AObj}(U:A.t.get B=some o)(s:T.set f A.t B o2=some t)(Z:o2.own=o.own)(V:o2.here=o.here)(Y:o2.nilOk=o.nilOk)(M:∀ b d c:Nat,OR P σ w.heap[b]? d c o->OR P σ w.heap[b]? d c o2):
 Rel P σ ⟨t,A.next⟩ w/\Ext σ A w σ ⟨t,A.next⟩ w:=by
 have S:=Hl s;have g:∀ {a:Nat}{k:AObj},t.get a=some k->∃ p,A.t.get a=some p/\k.own=p.own/\k.here=p.here:=fun {a k} h=>by rw[S]at h;by_cases e:a=B;subst e;rw[E' rfl]at h;cases h;exact⟨o,U,Z,V⟩;rw[C' e]at h;exact⟨k,h,rfl,rfl⟩
 refine⟨⟨λa k h C=>?_,λB1 B2 o1 o2 x x' z u N C O K J=>?_,R.lt,R.fresh,R.ro,λa k x h N K=>?_,R.nl⟩,⟨λ_ _=>rfl,GE _,GE _,λ_ _ _=>rfl,λa k x z u Q=>?_,λa k x z u Q=>?_,rfl,rfl,rfl,λ_ _ h=>h,λ_ _ h=>.inl h,λ_ _=>I6⟩⟩;have h:t.get a=some k:=h;rw[S]at h;by_cases e:a=B;subst e;rw[E' rfl]at h;cases h;rcases R.obj0 a o U (by rw[<-V];exact C)with⟨b,d,c,I,H⟩|⟨I,H⟩;exact .inl ⟨b,d,c,I,M b d c H⟩;exact .inr ⟨Y.trans I,H⟩;rw[C' e]at h;exact R.obj0 a k h C;obtain⟨l,q,r,D⟩:=g z;obtain⟨X,b1,b2,b3⟩:=g u;exact R.inj B1 B2 l X x x' q b1 (r▸N) (b3▸C) O K J;obtain⟨l,q,r,D⟩:=g h;exact R.sep a l x q (r▸N) K;obtain⟨l,q,r,D⟩:=g z;exact .inr ⟨a,l,x,q,r▸u,Q,rfl⟩;obtain⟨l,q,r,D⟩:=g z;exact .inr ⟨a,l,x,q,D▸u,Q,rfl⟩
theorem Rel.retellAt(R:Rel P σ A w){o:AObj}{t:T AObj}(U:A.t.get B=some o)(s:T.set f A.t B o2=some t)(Z:o2.own=o.own)(V:o2.here=o.here)(Y:o2.nilOk=o.nilOk)(M:∀ b d c:Nat,σ B=some (b,d,c)->OR P σ w.heap[b]? d c o->OR P σ w.heap[b]? d c o2):
 Rel P σ ⟨t,A.next⟩ w/\Ext σ A w σ ⟨t,A.next⟩ w:=by
 have S:=Hl s;have g:∀ {a:Nat}{k:AObj},t.get a=some k->∃ p,A.t.get a=some p/\k.own=p.own/\k.here=p.here:=fun {a k} h=>by rw[S]at h;by_cases e:a=B;subst e;rw[E' rfl]at h;cases h;exact⟨o,U,Z,V⟩;rw[C' e]at h;exact⟨k,h,rfl,rfl⟩
 refine⟨⟨λa k h D=>?_,λB1 B2 o1 o2 x x' z u N D O K J=>?_,R.lt,R.fresh,R.ro,λa k x h N K=>?_,R.nl⟩,⟨λ_ _=>rfl,GE _,GE _,λ_ _ _=>rfl,λa k x z u Q=>?_,λa k x z u Q=>?_,rfl,rfl,rfl,λ_ _ h=>h,λ_ _ h=>.inl h,λ_ _=>I6⟩⟩;have h:t.get a=some k:=h;rw[S]at h;by_cases e:a=B;subst e;rw[E' rfl]at h;cases h;rcases R.obj0 a o U (by rw[<-V];exact D)with⟨b,d,c,C,I⟩|⟨C,I⟩;exact .inl ⟨b,d,c,C,M b d c C I⟩;exact .inr ⟨Y.trans C,I⟩;rw[C' e]at h;exact R.obj0 a k h D;obtain⟨l,q,r,H⟩:=g z;obtain⟨X,b1,b2,b3⟩:=g u;exact R.inj B1 B2 l X x x' q b1 (r▸N) (b3▸D) O K J;obtain⟨l,q,r,H⟩:=g h;exact R.sep a l x q (r▸N) K;obtain⟨l,q,r,H⟩:=g z;exact .inr ⟨a,l,x,q,r▸u,Q,rfl⟩;obtain⟨l,q,r,H⟩:=g z;exact .inr ⟨a,l,x,q,H▸u,Q,rfl⟩
def splc(l:Lh)(lo:Nat)(news:Lh):Lh:=l.take lo++(news++l.drop (lo+news.length))
def mK(E:Env)(A:AH)(ts:List TypeId)(B o n m B2 o2 n2 m2:Nat):Option (Value×AH):=bif E.sym then none else none
theorem qt(h:∀ x∈els,x.cells.size=sz)(a:∀ x∈news,x.cells.size=sz):an (splc els lo news)=over (an els) (lo*sz) (an news):=by unfold splc over;rw[bu,bu,cf lo h,av a,<-HY,bS (lo+news.length) h,Hw]
theorem pp(h:lo+news.length<=els.length):(splc els lo news).length=els.length:=by unfold splc;simp only[Gr,Hd,I8];omega
theorem tL(q:E.Ok)(R:Rel E.P σ A w){o B2 o2 a g:Nat}(p:as[0]? =some x')(l:as[1]? =some y')
 (s:VR σ (.slice (some ⟨B,o,none⟩) n m) x') (r:VR σ (.slice (some ⟨B2,o2,none⟩) a g) y') (h:mK E A ts.toList B o n m B2 o2 a g=some (v,A')):
 ∃w',(Builtin.copy_ ts ty as).run E.P w=.ok v w'/\flat v=true/\Rel E.P σ A' w'/\Ext σ A w σ A' w':=by unfold mK at h;cases k:E.sym<;>rw[k]at h<;>cases h
def m6(E:Env)(A:AH)(ts:List TypeId)(d s:Value):Option (Value×AH):=
 match d,s with
 | .slice (some ⟨B,o,none⟩) n m,.slice (some ⟨B2,o2,none⟩) n2 m2=>(match isG m with
   |true=>mK E A ts B o n m B2 o2 n2 m2
   |false=>zT E A ts (.slice (some ⟨B,o,none⟩) n m) (.slice (some ⟨B2,o2,none⟩) n2 m2))
 |d,s=>zT E A ts d s
theorem tX(k:E.Ok)(R:Rel E.P σ A w)(g:as[0]? =some x')(a:as[1]? =some y')(p:VR σ x x')(l:VR σ y y')(h:m6 E A ts.toList x y=some (v,A')):
 ∃w',(Builtin.copy_ ts ty as).run E.P w=.ok v w'/\flat v=true/\Rel E.P σ A' w'/\Ext σ A w σ A' w':=by unfold m6 at h;split at h;split at h;exact tL k R g a p l h;exact xe k R g a p l h;exact xe k R g a p l h
def CD(B:Nat)(x:Value):Bool:=match x with| .slice (some ⟨B2,_,none⟩) _ _=>Nat.beq B B2|_=>false
def fj(E:Env)(A:AH)(ts:List TypeId)(s x:Value):Option (Value×AH):=
 match s with
 | .slice (some ⟨B,o,none⟩) n m=>(match isG m with
   |true=>bif CD B x then mM E A ts B o n m x else oG E A ts B o n m x
   |false=>eE E A ts s x)
 |_=>eE E A ts s x
theorem xN(a:E.Ok)(R:Rel E.P σ A w){s:Value}(k:VR σ s s')(g:VR σ x x')(h:fj E A ts.toList s x=some (v,A')):
 ∃v' w' σ',(Builtin.append_ ts ty #[s',x']).run E.P w=.ok v' w'/\VR σ' v v'/\Rel E.P σ' A' w'/\Ext σ A w σ' A' w':=by unfold fj at h;split at h;split at h;rw[Bool.cond_eq_ite]at h;split at h;exact tO a R k g h;exact wA a R k g h;exact pb a R k g h;exact pb a R k g h
abbrev _root_.Go.Hb:=@Array.getD_eq_getD_getElem?
abbrev _root_.Go.Ii:=@Option.bind_some
def okB:Value->Bool
 | .int .u8 (.ofNat n)=>Nat.blt n 256
 |_=>false
def x7(E:Env)(A:AH)(ats:List TypeId)(p n:Value):Option (Value×AH):=bif E.sym then none else none
theorem BT(q:E.Ok)(R:Rel E.P σ A w){a:Array TypeId}{p n g k:Value}(r:VR σ p g)(s:VR σ n k)(h:x7 E A a.toList p n=some (v,A')):
 ∃w',(Builtin.unsafeString_ a ty #[g,k]).run E.P w=.ok v w'/\flat v=true/\Rel E.P σ A' w'/\Ext σ A w σ A' w':=by unfold x7 at h;cases l:E.sym<;>rw[l]at h<;>cases h
def effB(E:Env)(A:AH)(ρ:Operand->Lj)(b:Builtin)(c:Call):Option (Value×AH):=
 match b with
 | .append=>(match c.args.toList with
   | [x,y]=>(match ρ x,ρ y with|some s,some v=>fj E A c.argTypes.toList s v|_,_=>none)
   |_=>none)
 | .delete=>(match c.args.toList with
   | [x,y]=>(match ρ x,ρ y with|some m,some k=>(match delA E A c.argTypes.toList m k with|some A'=>some (undef,A')|none=>none)|_,_=>none)
   |_=>none)
 | .clear=>(match c.args.toList with
   | [x]=>(match ρ x with|some m=>(match xj E A c.argTypes.toList m with|some A'=>some (undef,A')|none=>none)|none=>none)
   |_=>none)
 | .copy=>(match c.args.toList with
   | [x,y]=>(match ρ x,ρ y with|some d,some s=>m6 E A c.argTypes.toList d s|_,_=>none)
   |_=>none)
 | .unsafeString=>(match c.args.toList with
   | [x,y]=>(match ρ x,ρ y with|some p,some n=>x7 E A c.argTypes.toList p n|_,_=>none)
   |_=>none)
 |_=>none
def effA(E:Env)(A:AH)(ρ:Operand->Lj)(op:Op):Option (Value×AH):=
 match op with
 | .store t a x=>(match ρ a,ρ x with|some p,some v=>(match iA E A t p v with|some A'=>some (undef,A')|none=>none)|_,_=>none)
 | .mapUpdate t m k x=>(match ρ m,ρ k,ρ x with|some m,some k,some v=>(match fV E A t m k v with|some A'=>some (undef,A')|none=>none)|_,_,_=>none)
 | .insert t m k x=>(match ρ m,ρ k,ρ x with|some m,some k,some v=>(match fV E A t m k v with|some A'=>some (undef,A')|none=>none)|_,_,_=>none)
 | .convert s d x=>(match ρ x with|some v=>s2bA E A s d v|none=>none)
 | .range t x=>(match ρ x with|some v=>uZ E A t v|none=>none)
 | .next it b=>(match ρ it with|some v=>C6 A v b|none=>none)
 | .call c=>(match c.callee with| .builtin b=>effB E A ρ b c|_=>none)
 |_=>none
theorem iS{a g :Type}{l:Array a}{x y: a}(h:l.toList=[x,y])(f: a -> g):l.map f= #[f x,f y]:=by apply Hr.1;rw[IX,h];rfl
theorem vn{a g :Type}{l:Array a}{x: a}(h:l.toList=[x])(f: a -> g):l.map f= #[f x]:=by apply Hr.1;rw[IX,h];rfl
theorem Fq(z:E.Ok)(R:Rel E.P σ A w)(a:OpR σ ρ ρ'){b:Builtin}{c:Call}{cs:Array Bool}
 (h:effB E A ρ b c=some (v,A')):Good E.P σ A w ((builtin b c.argTypes ty cs (c.args.map ρ')).run E.P w) v A':=by unfold effB at h;split at h;split at h;rename_i x y g;split at h;rename_i s u C J;obtain⟨v',l,σ',r,q,p,I⟩:=xN z R (ty:=ty) (a x s C) (a y u J) h;refine Good.value (v':=v') (w':=l) ?_ q p I;rw[iS g];simp[builtin,r];cases h;cases h;split at h;rename_i x y g;split at h;rename_i m k H K;split at h;rename_i M hd;cases h;obtain⟨l,r,q,p⟩:=del_ok z R (ty:=ty) (as:= #[ρ' x,ρ' y]) rfl rfl (a x m H) (a y k K) hd;refine Good.value (v':=.tuple #[]) (w':=l) ?_ (cA σ) q p;rw[iS g];simp[builtin,r];cases h;cases h;cases h;split at h;rename_i x g;split at h;rename_i m H;split at h;rename_i M hd;cases h;obtain⟨l,r,q,p⟩:=z5 z R (ty:=ty) (as:= #[ρ' x]) rfl (a x m H) hd;refine Good.value (v':=.tuple #[]) (w':=l) ?_ (cA σ) q p;rw[vn g];simp[builtin,r];cases h;cases h;cases h;split at h;rename_i x y g;split at h;rename_i d s hd C;obtain⟨l,r,D,q,p⟩:=tX z R (ty:=ty) (as:= #[ρ' x,ρ' y]) rfl rfl (a x d hd) (a y s C) h;refine Good.value (v':=v) (w':=l) ?_ (bI D σ) q p;rw[iS g];simp[builtin,r];cases h;cases h;split at h;rename_i x y g;split at h;rename_i d s hd C;obtain⟨l,r,D,q,p⟩:=BT z R (ty:=ty) (a x d hd) (a y s C) h;refine Good.value (v':=v) (w':=l) ?_ (bI D σ) q p;rw[iS g];simp[builtin,r];cases h;cases h;cases h
theorem oR(H:E.Ok)(R:Rel E.P σ A w)(l:OpR σ ρ ρ')
 (h:effA E A ρ o.op=some (v,A')):Good E.P σ A w ((execOp ρ' o).run E.P w) v A':=by unfold effA at h;unfold execOp;split at h;rename_i t a x g;rw[g];split at h;rename_i p u U D;split at h;rename_i Q J;cases h;obtain⟨q,C,z,r⟩:=yf H R (l a p U) (l x u D) J;exact Good.skip (w':=q) (by simp[C]) z r;cases h;cases h;rename_i t m k x g;rw[g];split at h;rename_i K M u N O D;split at h;rename_i Q J;cases h;obtain⟨q,C,z,r⟩:=ot H R (l m K N) (l k M O) (l x u D) J;exact Good.skip (w':=q) (by simp[C]) z r;cases h;cases h;rename_i t m k x g;rw[g];split at h;rename_i K M u N O D;split at h;rename_i Q J;cases h;obtain⟨q,C,z,r⟩:=ot H R (l m K N) (l k M O) (l x u D) J;exact Good.skip (w':=q) (by simp[C]) z r;cases h;cases h;rename_i s d x g;rw[g];split at h;rename_i u D;obtain⟨v',q,σ',C,z,r,I⟩:=s2b_ok H R (l x u D) h;exact Good.value (v':=v') (w':=q) (by simp[C]) z r I;cases h;rename_i t x g;rw[g];split at h;rename_i u D;obtain⟨v',q,σ',C,z,r,I⟩:=yq H R (l x u D) h;exact Good.value (v':=v') (w':=q) (by simp[C]) z r I;cases h;rename_i S b g;rw[g];split at h;rename_i u D;obtain⟨v',q,C,z,r,I⟩:=C5 H R (ty:=o.type) (l S u D) h;exact Good.value (v':=v') (w':=q) (by simp[C]) z r I;cases h;rename_i c g;rw[g];split at h;rename_i b V;have:=Fq H R l (ty:=o.type) (cs:=c.args.map fun| .const _=>true|_=>false) h;simp only[resolve,V,GH,Hx,GC,invoke];exact this;cases h;cases h
def Da(E:Env)(t:TypeId)(name:String):Option FuncId:=bif E.sym then none else none
theorem C9(k:E.Ok){a:String}{f:FuncId}(h:Da E t a=some f)(v:Value)(args:Array Value)(w:World):
 (callMethod (.iface t v) a args).run E.P w=(callFunc f (#[v]++args)).run E.P w:=by unfold Da at h;cases g:E.sym<;>rw[g]at h<;>cases h
def iN(E:Env)(ρ:Operand->Lj)(op:Op):Option (FuncId×Lh):=
 match op with
 | .call c=>(match c.callee with
   | .value f=>(match ρ f,mapO ρ c.args.toList with
     |some (.func (.func g) ⟨first⟩ ⟨cap⟩),some as=>some (g,first++as++cap)
     |_,_=>none)
   | .invoke r name=>(match ρ r,mapO ρ c.args.toList with
     |some (.iface t v),some as=>(match Da E t name with|some g=>some (g,v::as)|none=>none)
     |_,_=>none)
   |_=>none)
 |_=>none
theorem sv(R:E.Ok)(p:OpR σ ρ ρ'){g:FuncId}{args:Lh}
 (h:iN E ρ o.op=some (g,args)):∃ l,VRs σ args l/\∀ w:World,(execOp ρ' o).run E.P w=(callFunc g ⟨l⟩).run E.P w:=by
 unfold iN at h;unfold execOp;split at h;rename_i c D;rw[D];split at h;rename_i f J;split at h;rename_i Q first N as H q
 simp only[osI,Gx]at h;obtain⟨rfl,rfl⟩:=h;have u:=p f _ H;obtain⟨a,k,X,I,K⟩:∃ a k,ρ' f=.func (.func Q) ⟨a⟩ ⟨k⟩/\VRs σ first a/\VRs σ N k:=by
  generalize ρ' f=y at u;cases u with
  |func Z Y z U=>exact⟨_,_,rfl,z,U⟩
 refine⟨a++c.args.toList.map ρ'++k,(I.append (dX p q)).append K,λw=>?_⟩;simp only[resolve,J,X,Deferred.ofValue,GH,Hx,GC,invoke];congr 2;apply Hr.1;simp;cases h;rename_i r O J;split at h;rename_i t v as S q;split at h;rename_i Q H;simp only[osI,Gx]at h;obtain⟨rfl,rfl⟩:=h;have s:=p r _ S;obtain⟨v',M,C⟩:∃ v',ρ' r=.iface t v'/\VR σ v v':=by
  generalize ρ' r=y at s;cases s with
  |iface _ z=>exact⟨_,rfl,z⟩
 refine⟨v'::c.args.toList.map ρ',.cons C (dX p q),λw=>?_⟩;have V:(#[Value.iface t v']++c.args.map ρ')[0]? =some (.iface t v'):=by rw[IN];rfl
 have z:(#[Value.iface t v']++c.args.map ρ').extract 1 (#[Value.iface t v']++c.args.map ρ').size=c.args.map ρ':=by apply Hr.1;simp[IE]
 simp only[resolve,J,M,GH,Hx,GC,invoke,V,z];rw[C9 R H];congr 2;apply Hr.1;simp;cases h;cases h;cases h;cases h
theorem dF(a:E.Ok){f:FuncId}{g:Func}(h:E.fn f=some g)(args:Array Value)(w:World):(callFunc f args).run E.P w=.ok (.enter f args) w:=by obtain⟨l,k⟩:=a.fnb f g h;unfold callFunc;rw[GH,run_program,GC,a.fn f g h];simp only[k,l,HG,HL];rfl
def ev(E:Env)(F:T Value):Operand->Lj
 | .tmp t=>F.get t
 | .const v=>bif flat v then some v else none
 | .global g=>(match E.gl g with|some cs=>some (plc cs)|none=>none)
 | .func f=>some (.func (.func f) ⟨[]⟩ ⟨[]⟩)
def Glob(E:Env)(σ:Sig):Prop:=∀ g cs,E.gl g=some cs->cs.all scal=true/\0<cs.length/\∃ (c:Array Value) (e:TypeId) (fz:Nat×Nat),σ.ro g=some (.cells c e fz)/\c.toList.take cs.length=cs
theorem Glob.sub(h:Glob E σ)(a:σ.sub σ'):Glob E σ':=λg s k=>by obtain⟨r,q,c,e,fz,p,l⟩:=h g s k;exact⟨r,q,c,e,fz,a.ro _ _ p,l⟩
theorem AG{g:Nat}{cs:Lh}{c:Array Value}(h:cs.all scal=true)(q:0<cs.length)(k:σ.ro g=some (.cells c e fz))(r:c.toList.take cs.length=cs):VR σ (plc cs) (.pointer (some ⟨g,0,none⟩)):=by
 have p:∀ x∈cs,x.cells= #[x]:=λx a=>by have:=G0.1 h x a;cases x<;>first|rfl|simp[scal]at this
 have z:an cs=cs:=by
  clear q r h;induction cs with
  |nil=>rfl
  |cons x l s=>rw[aV,s λy u=>p y (by simp[u]),p x (by simp)];rfl
 have:=VR.datP (σ:=σ) (b:=g) (o:=0) (sz:=1) (i:=0) (j:=0) (els:=cs) k (λx a=>by rw[p x a];rfl) q (by omega) (by rw[z,I7,Jm,r];exact br h σ)
 exact this
def slot(F:T Value)(t:Nat):Lj:=F.get t
def VO(σ:Sig)(o:Lj)(v':Value):Prop:=∀ v,o=some v->VR σ v v'
theorem VO.mono(a:σ.sub σ'){o:Lj}(h:VO σ o v'):VO σ' o v':=λv e=>(h v e).mono a
structure FR (σ:Sig) (F:T Value) (n:Nat) (a:Act):Prop where
 size:a.tmps.size=n
 val:∀ t,VO σ (slot F t) (a.tmps.getD t undef)
 defers:a.defers=[]
theorem FR.mono(g:σ.sub σ'){a:Act}(h:FR σ F n a):FR σ' F n a:=⟨h.size,λt=>(h.val t).mono g,h.defers⟩
theorem oO(p:Glob E σ){a:Act}(l:∀ t,VO σ (slot F t) (a.tmps.getD t undef)):OpR σ (ev E F) a.eval:=by
 intro x v h;cases x with
 |tmp t=>exact l t v h
 |const u=>simp only[ev]at h;cases k:flat u;rw[k]at h;simp at h;rw[k]at h;simp only[D',osI]at h;subst h;exact bI k σ
 | global g=>
  simp only[ev]at h;cases k:E.gl g with
  |none=>rw[k]at h;simp at h
  |some C=>rw[k]at h;cases h;obtain⟨z,s,c,e,fz,r,q⟩:=p g C k;exact AG z s r q
 |func f=>simp only[ev,osI]at h;subst h;exact .func _ rfl .nil .nil
def put(n:Nat)(F:T Value)(dst:Option Tmp)(v:Value):Option (T Value):=
 match dst with
 |none=>some F
 |some d=>bif Nat.blt d n then T.set FU F d v else none
theorem me{q:T Value}{a:Act}{k:Option Tmp}(h:FR σ F n a)(r:VR σ v v')(g:put n F k v=some q):FR σ q n (a.put k v'):=by
 cases k with
 |none=>simp only[put,osI]at g;subst g;exact h
 |some d=>
 simp only[put]at g;cases p:Nat.blt d n;rw[p]at g;simp at g;rw[p]at g;simp only[D']at g;rw[blt_eq,GK]at p;have s:=Hl g;refine⟨by simp[Act.put,h.size],λt=>?_,h.defers⟩;intro u l;unfold slot at l;rw[s]at l;by_cases e:t=d;subst e;simp only[Ia,osI]at l;subst l;simp only[Act.put];have:(a.tmps.setIfInBounds t v').getD t undef=v':=by rw[Hb,HU];simp[h.size,p]
 rw[this];exact r;rw[C' e]at l;have:(a.tmps.setIfInBounds d v').getD t undef=a.tmps.getD t undef:=by rw[Hb,HU,C' (λz=>e z.symm),Hb]
 simp only[Act.put];rw[this];exact h.val t u l
def cy (ops:List Oper)(F:T Value)(o:Oper):Option Bool:=
 match o.guard with
 |none=>some true
 | some (j,want)=>(match nth ops j with
   | some oj=>(match oj.dst with
     | some d=>(match slot F d with
       |some (.bool b)=>some (match b,want with|true,true=>true|false,false=>true|_,_=>false)
       |some _=>some false
       |none=>none)
     |none=>some false)
   |none=>some false)
theorem VR.bool_iff(h:VR σ v v')(b:Bool):v=.bool b↔v'=.bool b:=by cases h<;>simp
theorem lH{ops:Array Oper}{a:Act}(J:∀ j g l d,o.guard=some (j,g)->ops[j]? =some l->l.dst=some d->VO σ (slot F d) (a.tmps.getD d undef)){r:Bool}(k:cy ops.toList F o=some r):
 Region.wanted o (yielded ops a.tmps)=r:=by
 unfold cy at k;unfold Region.wanted;cases C:o.guard with
 |none=>rw[C]at k;cases k;rfl
 |some I=>
 obtain⟨j,g⟩:=I;rw[C]at k;have M:ops.toList[j]? =ops[j]?:=by simp
 simp only[yielded,aS,M]at k ⊢;cases z:ops[j]? with
 |none=>simp only[z,osI]at k;subst k;simp
 |some l=>
 simp only[z]at k;simp only[Ii];cases hd:l.dst with
 |none=>simp only[hd,osI]at k;subst k;simp
 |some d=>
 simp only[hd]at k;simp only[Ii];have h:=J j g l d C z hd;have p:∀ b,a.tmps[d]? =some (.bool b)↔a.tmps.getD d undef=.bool b:=by
  intro b;rw[Hb];cases D:a.tmps[d]? with
  |none=>simp[undef]
  |some x=>simp
 cases q:slot F d with
 |none=>simp[q]at k
 |some u=>
 have H:=λb=>VR.bool_iff (h u q) b;cases u with
 |bool b=>simp only[q,osI]at k;subst k;rw[(p b).2 ((H b).1 rfl)];cases b<;>cases g<;>rfl
 |_=>
 simp only[q,osI]at k;subst k;have s:∀ b,a.tmps[d]?≠some (.bool b):=by intro b K;have:=(H b).2 ((p b).1 K);cases this
 cases D:a.tmps[d]? with
 |none=>cases g<;>rfl
 |some x=>cases x<;>first|exact absurd D (s _)|(cases g<;>rfl)
abbrev _root_.Go.I9:=@List.range'_succ
abbrev bU:=FuncId->Lh->AH->Option (Value×AH)
def fp(E:Env)(call:bU):Prop:=∀ f args A v A',call f args A=some (v,A')->∀ σ w args',Rel E.P σ A w->Glob E σ->VRs σ args args'->
 Calls E.P f ⟨args'⟩ w (λe w'=>∃ v' σ',e=.returned v'/\VR σ' v v'/\Rel E.P σ' A' w'/\Ext σ A w σ' A' w')
def Does(E:Env)(σ:Sig)(A:AH)(w:World)(o:Oper)(a:Act)(v:Value)(A':AH):Prop:=
 ∀(K:Act->World->Prop) (Q:Exit->Act->World->Prop),(∀v' w' σ',VR σ' v v'->Rel E.P σ' A' w'->Ext σ A w σ' A' w'->K (a.put o.dst v') w')->o.wp E.P a w K Q
theorem aT{a:Act}(G:Good E.P σ A w ((execOp a.eval o).run E.P w) v A'):Does E σ A w o a v A':=by intro K Q h;obtain⟨s,v',g,σ',r,q,p,l,k⟩:=G;unfold Oper.wp;rw[r];rcases q with rfl|⟨rfl,rfl⟩;exact h v' g σ' p l k;exact h undef g σ' p l k
theorem lj(k:E.Ok)(R:Rel E.P σ A w){a:Act}(g:OpR σ ρ a.eval)(h:quiet E A ρ o.type o.op=some v):Does E σ A w o a v A:=by obtain⟨v',p,l⟩:=q8 k R g h;exact aT (Good.value p l R (Ext.refl _ _ _))
def c8 (call:bU)(E:Env)(A:AH)(ρ:Operand->Lj)(op:Op):Option (Value×AH):=
 match effA E A ρ op with
 |some r=>some r
 | none =>(match iN E ρ op with
   | some (g,args)=>(match E.fn g with
     |some _=>call g args A
     | none=>(match E.ext g with
       |some x=>x args A
       |none=>none))
   |none=>none)
theorem sA(u:E.Ok){p:bU}(O:fp E p)(R:Rel E.P σ A w)(M:Glob E σ){a:Act}(s:OpR σ ρ a.eval)
 (h:c8 p E A ρ o.op=some (v,A')):Does E σ A w o a v A':=by unfold c8 at h;split at h;rename_i r J;cases h;exact aT (oR u R s J);split at h;rename_i g q C;obtain⟨k,D,l⟩:=sv u s C;split at h;rename_i Y z;intro K Q S;unfold Oper.wp;rw[l,dF u z];show Calls E.P g ⟨k⟩ w _;refine(O g q A v A' h σ w k R M D).mono λe H N=>?_;obtain⟨v',σ',rfl,X,V,U⟩:=N;exact S v' H σ' X V U;split at h;rename_i x I;refine aT ?_;rw[l];exact u.ext g x q A v A' I h σ w k R D;cases h;cases h
theorem lk(r:E.Ok)(R:Rel E.P σ A w){a:Act}(p:OpR σ ρ a.eval){ob:AObj}{fv:Nat->Value}
 (h:bZ E ρ o.op=some (ob,fv)) (k:cO A ob=some A'):Does E σ A w o a (fv A.next) A':=by
 obtain⟨l,C,z,u,s,D⟩:=ny r p h;unfold cO at k;split at k;rename_i t q;cases k;have g:σ A.next=none:=R.fresh _ (GE _)
 exact aT (Good.value (z w) (s (upd σ A.next (w.heap.size,0,0)) A.next w.heap.size 0 bG) (R.alloc q g (It _) (IR _) (u _ (cj g)) rfl) (Ext.alloc R q (IR _) (ob:=l) rfl rfl rfl rfl));cases k
def opA(call:bU)(E:Env)(A:AH)(ρ:Operand->Lj)(ty:TypeId)(op:Op):Option (Value×AH):=
 match quiet E A ρ ty op with
 |some v=>some (v,A)
 | none=>(match bZ E ρ op with
   |some (ob,fv)=>(match cO A ob with|some A'=>some (fv A.next,A')|none=>none)
   |none=>c8 call E A ρ op)
theorem Fw(l:E.Ok){g:bU}(z:fp E g)(R:Rel E.P σ A w)(s:Glob E σ){a:Act}(k:OpR σ ρ a.eval)
 (h:opA g E A ρ o.type o.op=some (v,A')):Does E σ A w o a v A':=by unfold opA at h;split at h;rename_i u q;cases h;exact lj l R k q;split at h;rename_i C D p;split at h;rename_i H r;cases h;exact lk l R k p r;cases h;exact sA l z R s k h
def ke(call:bU)(E:Env)(ops:List Oper)(n:Nat):List Oper->T Value->AH->Option (T Value×AH)
 | [],F,A=>some (F,A)
 | o ::rest,F,A=>
   match cy ops F o with
   | some true=>(match opA call E A (ev E F) o.type o.op with
     |some (v,A')=>(match put n F o.dst v with|some F'=>ke call E ops n rest F' A'|none=>none)
     |none=>none)
   |some false=>(match put n F o.dst undef with|some F'=>ke call E ops n rest F' A|none=>none)
   |none=>none
theorem jc{E:Env}(z:E.Ok){q:bU}(D:fp E q){ops:Array Oper}{n:Nat}{Q:Exit->Act->World->Prop}:∀ (l:List Oper) (k:Nat) (F r:T Value) (A A':AH) (σ:Sig) (a:Act) (w:World),
 ke q E ops.toList n l F A=some (r,A')->(∀(i:Nat),i<l.length->ops[k+i]? =l[i]?)->Rel E.P σ A w->Glob E σ->FR σ F n a->
 (∀a' w' σ',FR σ' r n a'->Rel E.P σ' A' w'->Ext σ A w σ' A' w'->Q .normal a' w')->wpOps E.P ops Q (List.range' k l.length) a w
 | [],k,F,r,A,A',σ,a,w,h,_,R,hg,hF,hQ=>by simp only[ke,osI,Gx]at h;obtain⟨rfl,rfl⟩:=h;exact hQ a w σ hF R (Ext.refl _ _ _)
 | o::rest,k,F,r,A,A',σ,a,w,h,hl,R,hg,hF,hQ=>by
  have V:ops[k]? =some o:=by have:=hl 0 (by simp);simpa using this
  have I:∀ (i:Nat),i<rest.length->ops[k+1+i]? =rest[i]?:=λi Z=>by have:=hl (i+1) (by simp;omega);rw[show k+1+i=k+(i+1)by omega,this];simp
  rw[GR,I9,wpOps_cons];unfold wpOp;simp only[V];simp only[ke]at h;cases s:cy ops.toList F o with
  |none=>rw[s]at h;cases h
  |some b=>
  rw[lH (σ:=σ) (F:=F) (λ_ _ _ d _ _ _=>hF.val d) s];cases b with
  |true=>rw[s]at h;simp only at h;rw[E' rfl];left;split at h;rename_i v Y C;split at h;rename_i H g;refine Fw z D R hg (oO hg hF.val) C _ _ λv' w' σ' U S J=>?_;have p:=Ext.sub R J;exact jc z D rest (k+1) H r Y A' σ' _ w' h I S (hg.sub p) (me (hF.mono p) U g) λX K u O N M=>hQ X K u O N (J.trans M);cases h;cases h
  |false=>rw[s]at h;simp only at h;rw[C' (by simp)];split at h;rename_i H g;exact jc z D rest (k+1) H r A A' σ _ w h I R hg (me hF (cA σ) g) hQ;cases h
abbrev _root_.Go.Jq:=@List.nil_append
def gy(E:Env):Op->Bool
 | .store .. | .mapUpdate .. | .insert .. | .range .. | .next .. =>true
 | .convert _ d _=>(match und E d with|some (.slice _)=>true|_=>false)
 | .call c=>(match c.callee with| .builtin b=>(match b with| .len| .max| .min| .cap| .unsafeSliceData=>false|_=>true)|_=>true)
 |_=>false
def bH(op:Op):Lg:=op.operands.toList.filterMap fun| .tmp t=>some t|_=>none
def rho(E:Env)(F:T Value)(ts:Lg):Operand->Lj
 | .tmp t=>bif ts.any (Nat.beq t)then F.get t else none
 |x=>ev E F x
theorem CK(s:Glob E σ){a:Act}{ts:Lg}(q:∀ t,t∈ts->VO σ (slot F t) (a.tmps.getD t undef)):OpR σ (rho E F ts) a.eval:=by
 intro x v h;cases x with
 | tmp t=>
  simp only[rho]at h;cases l:ts.any (Nat.beq t);rw[l]at h;simp at h;rw[l]at h;simp only[D']at h;have r:t∈ts:=by rw[List.any_eq_true]at l;obtain⟨y,p,e⟩:=l;have:=Gt e;subst this;exact p
  exact q t r v h
 |const u=>simp only[rho,ev]at h;cases k:flat u;rw[k]at h;simp at h;rw[k]at h;simp only[D',osI]at h;subst h;exact bI k σ
 | global g=>
  simp only[rho,ev]at h;cases k:E.gl g with
  |none=>rw[k]at h;simp at h
  |some I=>rw[k]at h;cases h;obtain⟨H,D,c,e,fz,C,z⟩:=s g I k;exact AG H D C z
 |func f=>simp only[rho,ev,osI]at h;subst h;exact .func _ rfl .nil .nil
def fN(ms:Lg):List Edge->Nat
 | []=>0
 |e::l=>bif Region.binds .any e then(1 <<< e.on) ||| ((nth ms e.on).getD 0 ||| fN ms l)else fN ms l
def eY:List Oper->Lg->Lg
 | [],acc=>acc
 |o::l,acc=>eY l (acc++[fN acc o.after.toList])
def bit(ms:Lg)(i j:Nat):Bool:=((nth ms i).getD 0).testBit j
theorem kU:∀ (l:List Oper) (acc:Lg),∃r,eY l acc=acc++r/\r.length=l.length/\∀ (i:Nat) o,l[i]? =some o->r[i]? =some (fN (acc++r.take i) o.after.toList)
 | [],acc=>⟨[],by simp[eY]⟩
 | o::l,acc=>by
  obtain⟨r,p,k,h⟩:=kU l (acc++[fN acc o.after.toList]);refine⟨fN acc o.after.toList::r,by simp[eY,p],by simp[k],λi g a=>?_⟩;cases i with
  |zero=>simp at a;subst a;simp
  |succ i=>simp at a;have:=h i g a;simpa using this
theorem dO{r:Lg}{j:Nat}:∀ {l:List Edge},(fN r l).testBit j=true->∃ e∈l,Region.binds .any e=true/\(e.on=j∨((nth r e.on).getD 0).testBit j=true)
 | [],h=>by simp[fN]at h
 | e ::l,h=>by
  simp only[fN]at h;cases g:Region.binds .any e with
  | true=>
   rw [g]at h;simp only[D',Nat.testBit_or,HE]at h;rcases h with h|h|h;have:e.on=j:=by
    rw[Nat.testBit_shiftLeft]at h;simp only[f',GK]at h;obtain⟨k,a⟩:=h;have:j-e.on=0:=by
     cases s:j-e.on with
     |zero=>rfl
     |succ n=>rw[s]at a;simp[Nat.testBit_succ]at a
    omega
   exact⟨e,by simp,g,.inl this⟩;exact⟨e,by simp,g,.inr h⟩;obtain⟨q,k,a,p⟩:=dO h;exact⟨q,by simp[k],a,p⟩
  |false=>rw[g]at h;simp only[GN]at h;obtain⟨q,k,a,p⟩:=dO h;exact⟨q,by simp[k],a,p⟩
def og(E:Env)(ops:Array Oper)(ms:Lg)(i j:Nat)(oi oj:Oper):Bool:=
 (match oj.dst with
  | some t=>(!(oi.looksAt ops).contains t||(Nat.beq i j||(bif Nat.blt j i then bit ms i j else bit ms j i)))&&
    (match oi.dst with|some s=> !(Nat.beq s t)||(!(Nat.blt i j)||bit ms j i)|none=>true)
  |none=>true)&&
 (!(gy E oi.op&&(gy E oj.op&&Nat.blt i j))||bit ms j i)
def nY(E:Env)(ops:Array Oper):Bool:=
 let l:=ops.toList
 let ms:=eY l []
 l.zipIdx.all λ(oi,i)=>(oi.after.toList.all λe=> !(Region.binds .any e)||Nat.blt e.on i)&&l.zipIdx.all λ(oj,j)=>og E ops ms i j oi oj
structure SF (E:Env) (ops:Array Oper) (ms:Lg):Prop where
 closed:∀ (L:Nat->Prop),(∀i o,ops[i]? =some o->L i->∀ e∈o.after.toList,Region.binds .any e=true->L e.on)->∀ i,i<ops.size->L i->∀ j,bit ms i j=true->L j
 anc:∀ (L:Nat->Prop),(∀i o,ops[i]? =some o->L i->∀ e∈o.after.toList,Region.binds .any e=true->L e.on)->∀ i o,ops[i]? =some o->(∀e∈o.after.toList,Region.binds .any e=true->L e.on)->∀ j,bit ms i j=true->L j
 back:∀ i o,ops[i]? =some o->∀ e∈o.after.toList,Region.binds .any e=true->e.on<i
 low:∀ i,i<ops.size->∀ j,bit ms i j=true->j<i
 temps:∀ i j oi oj t,ops[i]? =some oi->ops[j]? =some oj->oj.dst=some t->t∈oi.looksAt ops->i≠j->(j<i->bit ms i j=true)/\(i<j->bit ms j i=true)
 dsts:∀ i j oi oj t,ops[i]? =some oi->ops[j]? =some oj->oi.dst=some t->oj.dst=some t->i<j->bit ms j i=true
 effs:∀ i j oi oj,ops[i]? =some oi->ops[j]? =some oj->gy E oi.op=true->gy E oj.op=true->i<j->bit ms j i=true
theorem sf_of{ops:Array Oper}(h:nY E ops=true):SF E ops (eY ops.toList []):=by
 unfold nY at h;simp only[G0]at h;have D:∀ i o,ops[i]? =some o->(o,i)∈ops.toList.zipIdx:=by intro i o g;rw[List.mk_mem_zipIdx_iff_getElem?];simpa using g
 obtain⟨r,Q,m2,m3⟩:=kU ops.toList [];simp only[Jq]at Q m3;have K:∀ i o,ops[i]? =some o->(nth (eY ops.toList []) i).getD 0=fN (r.take i) o.after.toList:=by intro i o g;rw[Q,aS,m3 i o (by simpa using g)];rfl
 have k:∀ i o,ops[i]? =some o->∀ e∈o.after.toList,Region.binds .any e=true->e.on<i:=by intro i o g e J s;have:=h _ (D i o g);simp only[f',G0]at this;have:=this.1 e J;simp only[s,Bool.not_true,Bool.false_or]at this;rw[blt_eq,GK]at this;exact this
 have C:∀ i j,j<i->(nth (r.take i) j).getD 0=(nth (eY ops.toList []) j).getD 0:=by intro i j U;rw[Q,aS,aS,GW,E' U]
 have p:∀ i j z I,ops[i]? =some z->ops[j]? =some I->og E ops (eY ops.toList []) i j z I=true:=by intro i j z I g M;have:=h _ (D i z g);simp only[f',G0]at this;exact this.2 _ (D j I M)
 have l:∀ (L:Nat->Prop),(∀i o,ops[i]? =some o->L i->∀ e∈o.after.toList,Region.binds .any e=true->L e.on)->∀ i,i<ops.size->L i->∀ j,bit (eY ops.toList []) i j=true->L j:=by
  intro L Z i;induction i using Nat.strongRecOn with
  |_ i R=>
  intro g Y j s;have N:ops[i]? =some ops[i]:=by simp[g]
  unfold bit at s;rw[K i _ N]at s;obtain⟨e,J,q,u⟩:=dO s;have a:=k i _ N e J q;have H:=Z i _ N Y e J q;rcases u with rfl|u;exact H;rw[C i e.on a]at u;exact R e.on a (by omega) H j u
 have O:∀ i,i<ops.size->∀ j,bit (eY ops.toList []) i j=true->j<i:=by
  intro i;induction i using Nat.strongRecOn with
  |_ i R=>
  intro g j s;have N:ops[i]? =some ops[i]:=by simp[g]
  unfold bit at s;rw[K i _ N]at s;obtain⟨e,J,q,u⟩:=dO s;have a:=k i _ N e J q;rcases u with rfl|u;exact a;rw[C i e.on a]at u;have:=R e.on a (by omega) j u;omega
 refine⟨l,?_,k,O,?_,?_,?_⟩;intro L Z i o g hp j s;unfold bit at s;rw[K i _ g]at s;obtain⟨e,J,q,u⟩:=dO s;have a:=k i _ g e J q;have H:=hp e J q;have a0:i<ops.size:=by rcases Hc i ops.size with h|h;exact h;rw[Ha h]at g;cases g
 rcases u with rfl|u;exact H;rw[C i e.on a]at u;exact l L Z e.on (by omega) H j u;intro i j z I t g M hd ht S;have:=p i j z I g M;simp only[og,hd,f',HE]at this;have:=this.1.1;have hc:(z.looksAt ops).contains t=true:=by simpa using ht
 rw[hc]at this;rcases this with h|h|h;simp at h;exact absurd (Gt h) S;constructor;intro a;have:Nat.blt j i=true:=by rw[blt_eq];simpa using a
 rw[this]at h;exact h;intro a;have:Nat.blt j i=false:=by rw[blt_eq];simp;omega
 rw[this]at h;exact h;intro i j z I t g M X V a;have:=p i j z I g M;simp only[og,V,X,f',HE]at this;have:=this.1.2;rcases this with h|h|h;simp at h;rw[blt_eq]at h;simp at h;omega;exact h;intro i j z I g M ei ej a;have:=p i j z I g M;simp only[og,f',HE]at this;have:=this.2;rcases this with h|h;have s:Nat.blt i j=true:=by rw[blt_eq];simpa using a
 rw[ei,ej,s]at h;simp at h;exact h
def fvl(ops:Array Oper)(vs:Lh)(L:Nat->Bool)(F0:T Value)(t:Nat):Nat->Lj
 |0=>slot F0 t
 |k+1=>if L k=true/\(ops[k]?).bind (·.dst)=some t then some ((vs[k]?).getD undef)else fvl ops vs L F0 t k
theorem ja {ops : Array Oper}{vs:Lh}{L:Nat->Bool}{a:T Value}{t:Nat}{i:Nat}:∀ k,i<=k->(∀j,i<=j->j<k->¬ (L j=true/\(ops[j]?).bind (·.dst)=some t))->fvl ops vs L a t k=fvl ops vs L a t i
  | 0, h, _ => by have:i=0:=by omega
                  subst this;rfl
  |k+1,h,hj=>by by_cases e:i=k+1;subst e;rfl;rw[fvl,C' (hj k (by omega) (by omega))];exact ja k (by omega) λj g l=>hj j g (by omega)
theorem gF{ops:Array Oper}{vs:Lh}{L a:Nat->Bool}{g:T Value}{t:Nat}:∀ k,(∀j,j<k->(ops[j]?).bind (·.dst)=some t->L j=a j)->fvl ops vs L g t k=fvl ops vs a g t k
 |0,_=>rfl
 |k+1,h=>by simp only[fvl];rw[gF k λj l=>h j (by omega)];by_cases e:(ops[k]?).bind (·.dst)=some t;rw[h k (by omega) e];rw[C' (λc=>e c.2),C' (λc=>e c.2)]
abbrev _root_.Go.JD:=@Option.map_eq_some_iff
abbrev _root_.Go.Jr:=@List.find?_some
abbrev _root_.Go.IQ:=@List.mem_of_find?_eq_some
abbrev _root_.Go.Ja:=@List.find?_eq_none
def vis(A:AH)(B:Nat):Option AObj:=
 match A.t.get B with
 |some o=>bif o.here then some o else none
 |none=>none
theorem vis_some{o:AObj}:vis A B=some o↔A.t.get B=some o/\o.here=true:=by
 unfold vis;cases h:A.t.get B with
 |none=>simp
 |some x=>cases a:x.here;simp only[a,GN];constructor;intro e;cases e;rintro⟨e,h2⟩;cases e;rw[a]at h2;cases h2;simp only[a,D',osI];constructor;rintro rfl;exact⟨rfl,a⟩;rintro⟨e,_⟩;exact e
abbrev Al:=Nat×Nat×AObj
def b8(m:Nat):List Al->AH->Option AH
 | [],G=>some G
 | (i,id,ob)::r,G=>
   match b8 m r G with
   | some H=>bif m.testBit i then(match vis H id with
     |some _=>some H
     |none=>(match T.set FU H.t id ob with|some t=>some ⟨t,H.next⟩|none=>none))else some H
   |none=>none
theorem fC{m:Nat}:∀ {l:List Al}{G H:AH},b8 m l G=some H->(∀x∈l,x.2.2.here=true)->
 H.next=G.next/\(∀B o,vis H B=some o->vis G B=some o∨(vis G B=none/\∃ i,(i,B,o)∈l/\m.testBit i=true))/\
 (∀B o,vis G B=some o->vis H B=some o)/\(∀i B o,(i,B,o)∈l->m.testBit i=true->∃ R,vis H B=some R)
 | [],G,H,h,_=>by simp only[b8,osI]at h;subst h;exact⟨rfl,λB o h=>.inl h,λB o h=>h,λi B o h=>by simp at h⟩
 | (i,id,ob)::r,G,H,h,hh=>by
  simp only[b8]at h;cases M:b8 m r G with
  |none=>simp[M]at h
  |some O=>
  simp only[M]at h;obtain⟨s1,K,q,J⟩:=fC M (λx S=>hh x (by simp[S]));cases D:m.testBit i;rw[D]at h;simp only[GN,osI]at h;subst h;refine⟨s1,λB o g=>?_,q,λj B o s a=>?_⟩;rcases K B o g with h|⟨C,j,z,u⟩;exact .inl h;exact .inr ⟨C,j,by simp[z],u⟩;rcases Gz.1 s with e|e;simp only[Gx]at e;rw[e.1,D]at a;cases a;exact J j B o e a;rw[D]at h;simp only[D']at h;cases p:vis O id with
  |some Q=>simp only[p,osI]at h;subst h;refine⟨s1,λB o g=>?_,q,λj B o s a=>?_⟩;rcases K B o g with h|⟨C,j,z,u⟩;exact .inl h;exact .inr ⟨C,j,by simp[z],u⟩;rcases Gz.1 s with e|e;simp only[Gx]at e;rw[e.2.1];exact⟨Q,p⟩;exact J j B o e a
  |none=>
  simp only[p]at h;split at h;rename_i t U;cases h;have V:=Hl U;have k:∀ B,vis ⟨t,O.next⟩ B=if B=id then some ob else vis O B:=by intro B;unfold vis;simp only[V];by_cases e:B=id;simp only[e,Ia,hh (i,id,ob) (by simp),D'];simp only[e,HL]
  refine⟨s1,λB o g=>?_,λB o g=>?_,λj B o s a=>?_⟩;rw[k]at g;by_cases e:B=id;rw[E' e,osI]at g;subst g;subst e;refine .inr ⟨?_,i,by simp,D⟩;cases N:vis G B with
  |none=>rfl
  |some x=>rw[q B x N]at p;cases p
  rw[C' e]at g;rcases K B o g with h|⟨C,j,z,u⟩;exact .inl h;exact .inr ⟨C,j,by simp[z],u⟩;rw[k];by_cases e:B=id;rw[e]at g;rw[q _ _ g]at p;cases p;rw[C' e];exact q B o g;rw[k];by_cases e:B=id;exact⟨ob,by rw[E' e]⟩;rw[C' e];rcases Gz.1 s with I|I;simp only[Gx]at I;exact absurd I.2.1 e;exact J j B o I a;cases h
def gf(als:List Al)(G:AH)(L:Nat->Bool)(B:Nat):Option AObj:=
 match vis G B with
 |some o=>some o
 |none=>(als.find? (λx=>Nat.beq x.2.1 B&&L x.1)).map (·.2.2)
structure AlsOk (n0 m:Nat) (als:List Al):Prop where
 id:∀ x∈als,x.2.1=n0+x.1
 lt:∀ x∈als,x.1<m
 own:∀ x∈als,x.2.2.own=true
 uniq:∀ x∈als,∀y∈als,x.1=y.1->x=y
theorem mP{a:List Al}{o:AObj}(h:gf a G L B=some o):vis G B=some o∨(vis G B=none/\∃ i,(i,B,o)∈a/\L i=true):=by unfold gf at h;split at h;rename_i x g;cases h;exact .inl g;rename_i g;rw[JD]at h;obtain⟨y,l,rfl⟩:=h;have k:=Jr l;have p:=IQ l;simp only[f']at k;have:=Gt k.1;subst this;exact .inr ⟨g,y.1,p,k.2⟩
theorem j7{a:List Al}{o:AObj}(h:vis G B=some o):gf a G L B=some o:=by unfold gf;rw[h]
theorem tQ{q:Nat}{a:List Al}(l:AlsOk q m a){o:AObj}(k:(i,B,o)∈a)(s:L i=true)(r:vis G B=none):gf a G L B=some o:=by
 unfold gf;rw[r];simp only;cases h:a.find? (λx=>Nat.beq x.2.1 B&&L x.1)with
 |none=>rw[Ja]at h;have:=h _ k;simp[s]at this
 |some y=>have p:=Jr h;have g:=IQ h;simp only[f']at p;have C:=Gt p.1;have z:=l.id y g;have u:=l.id _ k;simp only at u;have:y=(i,B,o):=l.uniq y g _ k (by simp only;omega);subst this;rfl
theorem EO{a:List Al}{g:Nat->Bool}(h:∀ x∈a,g x.1=L x.1)(B:Nat):gf a G g B=gf a G L B:=by
 unfold gf;have:∀ (l:List Al),(∀x∈l,g x.1=L x.1)->l.find? (λx=>Nat.beq x.2.1 B&&g x.1)=l.find? (λx=>Nat.beq x.2.1 B&&L x.1):=by
  intro l k;induction l with
  |nil=>rfl
  |cons x l p=>simp only[List.find?_cons,k x (by simp)];rw[p λy q=>k y (by simp[q])]
 rw[this a h]
structure TR (call:bU) (E:Env) (ops:Array Oper) (ms:Lg) (n n0:Nat) (F0:T Value) (fs:List (T Value)) (vs:Lh) (cs:List AH) (es:Lg) (als:List Al):Prop where
 fs0:fs[0]? =some F0
 row : ∀i o,ops[i]? =some o->∃ F F' v,fs[i]? =some F/\fs[i+1]? =some F'/\vs[i]? =some v/\put n F o.dst v=some F'/\
  ((cy ops.toList F o=some false/\v=undef/\i ∉ es/\(∀x∈als,x.1≠i))∨
   (cy ops.toList F o=some true/\i ∉ es/\(∀x∈als,x.1≠i)/\
    ∀ (e:Nat) G,cs[e]? =some G->(∀(j:Nat) i',es[j]? =some i'->bit ms i i'=true->j<e)->(∀(j:Nat) i',es[j]? =some i'->j<e->bit ms i' i=false)->
      ∃H,b8 ((nth ms i).getD 0) als G=some H/\quiet E H (rho E F (bH o.op)) o.type o.op=some v)∨
   (cy ops.toList F o=some true/\i ∉ es/\∃ ob fv,bZ E (rho E F (bH o.op)) o.op=some (ob,fv)/\(i,n0+i,ob)∈als/\v=fv (n0+i))∨
   (cy ops.toList F o=some true/\(∀x∈als,x.1≠i)/\∃ (e:Nat),∃G G' H,es[e]? =some i/\cs[e]? =some G/\cs[e+1]? =some G'/\b8 ((nth ms i).getD 0) als G=some H/\
    c8 call E H (rho E F (bH o.op)) o.op=some (v,G')/\∀ x∈als,∀ob,vis H x.2.1=some ob->∃ ob',vis G' x.2.1=some ob'))
 es_eff:∀ (j:Nat) i,es[j]? =some i->∃ o,ops[i]? =some o/\gy E o.op=true
 es_inc:∀ (j j':Nat) i i',es[j]? =some i->es[j']? =some i'->j<j'->i<i'
 als_ok:AlsOk n0 ops.size als
 cs_len:cs.length=es.length+1
 cs_next:∀ G∈cs,n0+ops.size<=G.next
structure St (E:Env) (ops:Array Oper) (n n0:Nat) (F0:T Value) (vs:Lh) (cs:List AH) (es:Lg) (als:List Al) (σ0:Sig) (g0:Nat->Option AObj) (w0:World)
 (L:Nat->Bool) (e:Nat) (σ:Sig) (a:Act) (w:World):Prop where
 cl:∀ i o,ops[i]? =some o->L i=true->∀ ed∈o.after.toList,Region.binds .any ed=true->L ed.on=true
 lt:∀ i,L i=true->i<ops.size
 ef:∀ (j:Nat) i,es[j]? =some i->(L i=true↔j<e)
 sz:a.tmps.size=n
 df:a.defers=[]
 fr:∀ t,VO σ (fvl ops vs L F0 t ops.size) (a.tmps.getD t undef)
 free:∀ x∈als,L x.1=false->σ x.2.1=none/\¬ σ.nl x.2.1
 glob:Glob E σ
 rel:∃ G,cs[e]? =some G/\RelG E.P σ (gf als G L) G.next w/\ExtG σ0 g0 n0 w0 σ (gf als G L) G.next w
theorem jB{g:bU}{E:Env}{ops:Array Oper}{C:Lg}{n z:Nat}{u:T Value}{fs:List (T Value)}{vs:Lh}{cs:List AH}{es:Lg}{p:List Al}
 (l:TR g E ops C n z u fs vs cs es p) (t:Nat):∀ (k:Nat) F,k<=ops.size->fs[k]? =some F->slot F t=fvl ops vs (λ_=>true) u t k
 |0,F,_,h=>by rw[l.fs0,osI]at h;subst h;rfl
 | k+1,F,hk,h=>by
  have r:ops[k]? =some ops[k]:=by simp<;>omega
  obtain⟨K,M,v,J,I,H,a,_⟩:=l.row k _ r;rw[I,osI]at h;subst h;have q:=jB l t k K (by omega) J;simp only[fvl,r,Ii,H,Iv,true_and];cases hd:(ops[k]'(by omega)).dst with
  |none=>rw[hd]at a;simp only[put,osI]at a;subst a;rw[C' (by simp)];exact q
  |some d=>rw[hd]at a;simp only[put]at a;cases s:Nat.blt d n;rw[s]at a;simp at a;rw[s]at a;simp only[D']at a;have D:=Hl a;unfold slot;rw[D];by_cases e:t=d;subst e;simp;rw[C' e,C' (by simp;exact λh=>e h.symm)];exact q
theorem sV(ops:Array Oper)(o:Oper){t:Nat}(h:t∈bH o.op):t∈o.looksAt ops:=by unfold Oper.looksAt;exact List.mem_append_left _ h
section
variable {call:bU}{E:Env}{ops:Array Oper}{ms:Lg}{n n0:Nat}{F0:T Value}{fs:List (T Value)}{vs:Lh}{cs:List AH}{es:Lg}{als:List Al}
 {σ0:Sig}{g0:Nat->Option AObj}{w0:World}{L:Nat->Bool}{e:Nat}{σ:Sig}{a:Act}{w:World}{i:Nat}{o:Oper}{F:T Value}
theorem tp(l:SF E ops ms)(q:TR call E ops ms n n0 F0 fs vs cs es als)(st:St E ops n n0 F0 vs cs es als σ0 g0 w0 L e σ a w)(c:ops[i]? =some o)(v:fs[i]? =some F)(k:L i=false)
 (r:∀ p∈o.after.toList,Region.binds .any p=true->L p.on=true) {t:Nat}(m:t∈o.looksAt ops):VO σ (slot F t) (a.tmps.getD t undef):=by
 have z:i<ops.size:=by rcases Hc i ops.size with h|h;exact h;rw[Ha h]at c;cases c
 rw[jB q t i F (by omega) v];have g:∀ j,bit ms i j=true->L j=true:=l.anc (λi=>L i=true) st.cl i o c r;have y:fvl ops vs L F0 t ops.size=fvl ops vs L F0 t i:=by
  refine ja ops.size (by omega) λj s d f=>?_;have b:ops[j]? =some ops[j]:=by simp[d]
  rw[b,Ii]at f;by_cases e:i=j;subst e;rw[k]at f;cases f.1;have:=(l.temps i j o _ t c b f.2 m e).2 (by omega);have:=l.closed (λi=>L i=true) st.cl j d f.1 i this;rw[k]at this;cases this
 have x:fvl ops vs L F0 t i=fvl ops vs (λ_=>true) F0 t i:=by
  refine gF i λj u hd=>?_;have b:ops[j]? =some (ops[j]'(by omega)):=by simp<;>omega
  rw[b,Ii]at hd;exact g j ((l.temps i j o _ t c b hd m (by omega)).1 u)
 rw[<-x,<-y];exact st.fr t
theorem gV(y:SF E ops ms)(st:St E ops n n0 F0 vs cs es als σ0 g0 w0 L e σ a w)(f:ops[i]? =some o)(s:L i=false){v v':Value}(B:vs[i]? =some v){σ':Sig}(b:σ.sub σ')(m:VR σ' v v')
 (D:∀ d,o.dst=some d->d<n) (t:Nat):VO σ' (fvl ops vs (λj=>decide (j=i)||L j) F0 t ops.size) ((a.put o.dst v').tmps.getD t undef):=by
 have I:i<ops.size:=by rcases Hc i ops.size with h|h;exact h;rw[Ha h]at f;cases f
 by_cases e:o.dst=some t;have x:fvl ops vs (λj=>decide (j=i)||L j) F0 t ops.size=fvl ops vs (λj=>decide (j=i)||L j) F0 t (i+1):=by
  refine ja ops.size (by omega) λj C g q=>?_;have c:ops[j]? =some ops[j]:=by simp[g]
  rw[c,Ii]at q;have r:L j=true:=by have:=q.1;simp only[HE,GK]at this;rcases this with h|h;omega;exact h
  have:=y.dsts i j o _ t f c e q.2 (by omega);have:=y.closed (λi=>L i=true) st.cl j g r i this;rw[s]at this;cases this
 rw[x,fvl,E' ⟨by simp,by rw[f,Ii,e]⟩,B];have p:=D t e;have:(a.put o.dst v').tmps.getD t undef=v':=by rw[e];simp only[Act.put];rw[Hb,HU];simp[st.sz,p]
 rw[this];intro u z;simp only[Iv,osI]at z;subst z;exact m;have x:fvl ops vs (λj=>decide (j=i)||L j) F0 t ops.size=fvl ops vs L F0 t ops.size:=by refine gF ops.size λj H l=>?_;by_cases A:j=i;subst A;rw[f,Ii]at l;exact absurd l e;simp[A]
 rw[x];have:(a.put o.dst v').tmps.getD t undef=a.tmps.getD t undef:=by
  cases k:o.dst with
  |none=>rfl
  |some d=>simp only[Act.put];rw[Hb,HU,C' (λG=>e (by rw[k,G])),Hb]
 rw[this];exact(st.fr t).mono b
end
end
end Go.AM
