/- A part of the proof. -/
import Derived.Test.YtegefclhhjbfhaaGreatDoorN8
set_option linter.unusedVariables false
set_option linter.unusedSimpArgs false
set_option maxRecDepth 1000000
namespace Go.T9
open Go Go.AM Go.MK Go.HK Go.Proofs.Tryz
noncomputable section
def okN3(n:Nat):Bool:=match iK env1 (evN env1 100000) 109 [.int .u64 n] ⟨.leaf,0⟩with
 |some (.int .i64 m,_)=>decide (m=3)
 |_=>false
def qx:Nat->Nat->Bool
 |_,0=>true
 |m,k+1=>okN3 m&&qx (m+1) k
theorem oY:∀ {k m n:Nat},qx m k=true->m<=n->n<m+k->okN3 n=true
 |0,m,n,_,h1,h2=>by omega
 |k+1,m,n,h,h1,h2=>by simp only[qx,f']at h;by_cases e:n=m;subst e;exact h.1;exact oY h.2 (by omega) (by omega)
theorem n3a:qx 100 51=true:=by kernel_rfl
theorem n3b:qx 151 50=true:=by kernel_rfl
theorem n3c:qx 201 50=true:=by kernel_rfl
theorem n3d:qx 251 50=true:=by kernel_rfl
theorem za{n:Nat}(b:100<=n)(a:n<301):okN3 n=true:=by grind [oY,n3a,n3b,n3c,n3d]
def n3Y:Lh->Lj
 | [.int .u64 x]=>bif decide (100<=x)&&decide (x<301)then some (.int .i64 3)else none
 |_=>none
theorem n3_con:Con env 109 (dC n3Y):=lH qh rfl wZ rfl (fun i d g f e=>d g f e) λc v a=>by unfold n3Y at a;split at a;rename_i x;cases b:decide (100<=x)&&decide (x<301);rw[b]at a;cases a;rw[b]at a;simp only[C',osI]at a;subst a;simp only[f',HL]at b;obtain⟨m,rfl⟩:=Iq (show 0<=x by omega);refine⟨rfl,rfl,?_⟩;have h:=za (n:=m) (by omega) (by omega);unfold okN3 at h;grind;cases a
def n3P:Lh->Ll
 | [.int .u64 x]=>some (100<=x/\x<301)
 |_=>none
def n3X:Lh->Lj
 | [.int .u64 x]=>some (.int .i64 3)
 |_=>none
theorem Bc:∀ args A p v A',bg n3P n3X args A=some (p,v,A')->PH p->CallAt env 109 args A v A':=
 fM λargs v b d A c w a R e f=>by refine n3_con args A v A ?_ c w a R e f;unfold n3X at b;split at b;rename_i x;obtain⟨h,g⟩:100<=x/\x<301:=d;cases b;simp[dC,n3Y,h,g];cases b
def tB(t:ByteArray)(i:Nat):UInt8:=match nth t.data.toList i with|some b=>b|none=>0
def tb99:ByteArray:=⟨⟨[48,48,48,49,48,50,48,51,48,52,48,53,48,54,48,55,48,56,48,57,49,48,49,49,49,50,49,51,49,52,49,53,49,54,49,55,49,56,49,57,50,48,50,49,50,50,50,51,50,52,50,53,50,54,50,55,50,56,50,57,51,48,51,49,51,50,51,51,51,52,51,53,51,54,51,55,51,56,51,57,52,48,52,49,52,50,52,51,52,52,52,53,52,54,52,55,52,56,52,57,53,48,53,49,53,50,53,51,53,52,53,53,53,54,53,55,53,56,53,57,54,48,54,49,54,50,54,51,54,52,54,53,54,54,54,55,54,56,54,57,55,48,55,49,55,50,55,51,55,52,55,53,55,54,55,55,55,56,55,57,56,48,56,49,56,50,56,51,56,52,56,53,56,54,56,55,56,56,56,57,57,48,57,49,57,50,57,51,57,52,57,53,57,54,57,55,57,56,57,57]⟩⟩
def tD(n:Nat):LB:=if n<10 then [UInt8.ofNat (48+n)]else if n<100 then [UInt8.ofNat (48+n/10),UInt8.ofNat (48+n%10)]else [UInt8.ofNat (48+n/100),tB tb99 (n%100*2),tB tb99 (n%100*2+1)]
def okSm(n:Nat):Bool:=match iK env1 (evN env1 100000) 108 [.int .i64 n] ⟨.leaf,0⟩with
 |some (.string s,_)=>eqL s.data.toList (tD n)
 |_=>false
def yc:Nat->Nat->Bool
 |_,0=>true
 |m,k+1=>okSm m&&yc (m+1) k
theorem oX:∀ {k m n:Nat},yc m k=true->m<=n->n<m+k->okSm n=true
 |0,m,n,_,h1,h2=>by omega
 |k+1,m,n,h,h1,h2=>by simp only[yc,f']at h;by_cases e:n=m;subst e;exact h.1;exact oX h.2 (by omega) (by omega)
theorem sma:yc 0 50=true:=by kernel_rfl
theorem smb:yc 50 50=true:=by kernel_rfl
theorem y9{n:Nat}(a:n<100):okSm n=true:=by grind [oX,sma,smb]
def smY:Lh->Lj
 | [.int .i64 x]=>bif decide (0<=x)&&decide (x<100)then some (.string (av (tD x.toNat)))else none
 |_=>none
theorem AI:Con env 108 (dC smY):=lH qh rfl wZ rfl (fun i d g f e=>d g f e) λc v a=>by
 unfold smY at a;split at a;rename_i x;cases b:decide (0<=x)&&decide (x<100);rw[b]at a;cases a;rw[b]at a;simp only[C',osI]at a;subst a;simp only[f',HL]at b;obtain⟨m,rfl⟩:=Iq b.1;refine⟨rfl,rfl,?_⟩;have h:=y9 (n:=m) (by omega);unfold okSm at h;split at h;rename_i s k j;rw[eH]at h;have:s=av (tD (Int.toNat ((m:Nat):Int))):=by rcases s with⟨⟨l⟩⟩;exact Il (λl=>ByteArray.mk (Array.mk l)) h
 grind;cases h;cases a
def d8(x:Int):UInt8:=UInt8.ofNat (48+x.toNat)
def s1P:Lh->Ll
 | [.int .i64 x]=>some (0<=x/\x<10)
 |_=>none
def s1X:Lh->Lj
 | [.int .i64 x]=>some (.string (av [d8 x]))
 |_=>none
def s2P:Lh->Ll
 | [.int .i64 x]=>some (10<=x/\x<100)
 |_=>none
def s2X:Lh->Lj
 | [.int .i64 x]=>some (.string (av [d8 (x/10),d8 (x%10)]))
 |_=>none
theorem s1_tab:∀ args A p v A',bg s1P s1X args A=some (p,v,A')->PH p->CallAt env 108 args A v A':=
 fM λargs v b f A e w a R g h=>by
  refine AI args A v A ?_ e w a R g h;unfold s1X at b;split at b;rename_i x;obtain⟨d,j⟩:0<=x/\x<10:=f;cases b;obtain⟨m,rfl⟩:=Iq d;have i:((m:Nat):Int)<100:=by omega
  have c:tD (Int.toNat ((m:Nat):Int))=[d8 (m:Int)]:=by unfold tD d8;grind
  simp[dC,smY,d,i,c];exact Il av c;cases b
theorem s2_tab:∀ args A p v A',bg s2P s2X args A=some (p,v,A')->PH p->CallAt env 108 args A v A':=
 fM λargs v b e A d w a R f g=>by
  refine AI args A v A ?_ d w a R f g;unfold s2X at b;split at b;rename_i x;obtain⟨j,h⟩:10<=x/\x<100:=e;cases b;obtain⟨m,rfl⟩:=Iq (show 0<=x by omega);have i:(0:Int)<=((m:Nat):Int):=by omega
  have c:tD (Int.toNat ((m:Nat):Int))=[d8 ((m:Int)/10),d8 ((m:Int)%10)]:=by unfold tD d8;grind
  simp[dC,smY,i,h,c];exact Il av c;cases b
def elIk:El:={El.of (λ_ _ els i=>some (.int .u8 (aa els i)))with app:=true,gm:=λ_=>true}
def XA1:SX:=⟨env,[(109,bg n3P n3X),(108,bg s1P s1X)],elIk,λ_=>.unroll 0⟩
def XA2:SX:=⟨env,[(109,bg n3P n3X),(108,bg s2P s2X)],elIk,λ_=>.unroll 0⟩
def jAu1(K:KV)(l:LB)(x:Int):Prop:=aN XA1 3 f103 [groS 0 l.length,.int .u64 x,.int .i64 10] (hU l) K
def jAu2(K:KV)(l:LB)(x:Int):Prop:=aN XA2 3 f103 [groS 0 l.length,.int .u64 x,.int .i64 10] (hU l) K
set_option maxHeartbeats 400000
abbrev K':=λa=>IntKind.wrap IntKind.u32 a
abbrev Y':=λa b=>AH.mk (Ns (Ns Lf (m_ [A_ (IntKind.wrap .u8 (IntKind.wrap IntKind.u32 (48+IntKind.wrap IntKind.u32 (Int.tdiv (IntKind.wrap IntKind.u32 a) 100)))),A_ (aY tb99 (IntKind.wrap IntKind.u32 (Int.tmod (IntKind.wrap IntKind.u32 a) 100*2))),A_ (aY tb99 (IntKind.wrap IntKind.u32 (IntKind.wrap IntKind.u32 (Int.tmod (IntKind.wrap IntKind.u32 a) 100*2)+1))),A_ 0,A_ 0,A_ 0,A_ 0,A_ 0,A_ 0,A_ 0,A_ 0,A_ 0,A_ 0,A_ 0,A_ 0,A_ 0,A_ 0,A_ 0,A_ 0,A_ 0,A_ 0,A_ 0,A_ 0,A_ 0] 156) (w_ (Sg (AObj.gro (u8v b) [A_ (IntKind.wrap .u8 (IntKind.wrap IntKind.u32 (48+IntKind.wrap IntKind.u32 (Int.tdiv (IntKind.wrap IntKind.u32 a) 100)))),A_ (aY tb99 (IntKind.wrap IntKind.u32 (Int.tmod (IntKind.wrap IntKind.u32 a) 100*2))),A_ (aY tb99 (IntKind.wrap IntKind.u32 (IntKind.wrap IntKind.u32 (Int.tmod (IntKind.wrap IntKind.u32 a) 100*2)+1)))] 5)))) AObj.dead Lf) 18
abbrev Ob(a:Int)(b:LB)(c:KV):Prop:=((100<=a/\a<301)/\NZ 100/\NZ 100/\(0<=IntKind.wrap IntKind.u32 (IntKind.wrap IntKind.u32 (Int.tmod (K' a) 100*2)+1)/\IntKind.wrap IntKind.u32 (IntKind.wrap IntKind.u32 (Int.tmod (K' a) 100*2)+1)<200)/\(0<=IntKind.wrap IntKind.u32 (Int.tmod (K' a) 100*2)/\IntKind.wrap IntKind.u32 (Int.tmod (K' a) 100*2)<200)/\(List.all [A_ (IntKind.wrap .u8 (K' (48+IntKind.wrap IntKind.u32 (Int.tdiv (K' a) 100)))),A_ (aY tb99 (K' (Int.tmod (K' a) 100*2))),A_ (aY tb99 (K' (IntKind.wrap IntKind.u32 (Int.tmod (K' a) 100*2)+1)))] cellv=true/\List.length b+0=List.length (u8v b)/\List.length b+(3:Nat)<=(70368744177664:Nat)/\(List.length b+3)*(1:Nat)<=(140737488355328:Nat))/\c (g_ 17 0 (List.length b+3)) (Y' a b))
theorem NH(K:KV)(l:LB)(x:Int):jAu1 K l x=(Sp (decide (x<100)) ((0<=IntKind.wrap .i64 x/\IntKind.wrap .i64 x<10)/\(List.all [A_ (I_ (UInt8.toNat (d8 (IntKind.wrap .i64 x))))] cellv=true/\List.length l+0=List.length (u8v l)/\List.length l+(1:Nat)<=(70368744177664:Nat)/\(List.length l+1)*(1:Nat)<=(140737488355328:Nat))/\K (g_ 1 0 (List.length l+1)) (AH.mk (Ns (Sg (AObj.gro (u8v l) [A_ (I_ (UInt8.toNat (d8 (IntKind.wrap .i64 x))))] 5)) AObj.dead Lf) 2)) (Ob x l K)):=by kernel_rfl
theorem EQ:type_of%(by have h:=@NH;revert h;delta Ob b_ g_ m_ w_ A_ I_ K' Y';exact id):=@NH
theorem NI(K:KV)(l:LB)(x:Int):jAu2 K l x=(Sp (decide (x<100)) ((10<=IntKind.wrap .i64 x/\IntKind.wrap .i64 x<100)/\(List.all [A_ (I_ (UInt8.toNat (d8 (IntKind.wrap .i64 x/10)))),A_ (I_ (UInt8.toNat (d8 (IntKind.wrap .i64 x%10))))] cellv=true/\List.length l+0=List.length (u8v l)/\List.length l+(2:Nat)<=(70368744177664:Nat)/\(List.length l+2)*(1:Nat)<=(140737488355328:Nat))/\K (g_ 1 0 (List.length l+2)) (AH.mk (Ns (Sg (AObj.gro (u8v l) [A_ (I_ (UInt8.toNat (d8 (IntKind.wrap .i64 x/10)))),A_ (I_ (UInt8.toNat (d8 (IntKind.wrap .i64 x%10))))] 5)) AObj.dead Lf) 2)) (Ob x l K)):=by kernel_rfl
theorem EP:type_of%(by have h:=@NI;revert h;delta Ob b_ g_ m_ w_ A_ I_ K' Y';exact id):=@NI
theorem sO(t:ByteArray)(k:Nat):aY t (k:Int)=((tB t k).toNat:Int):=by unfold aY tB;rw[D'];cases nth t.data.toList k<;>rfl
theorem nA{x:Int}(b:0<=x)(a:x<4294967296):IntKind.wrap .u32 x=x:=by unfold IntKind.wrap;exact Int.emod_eq_of_lt b a
theorem u8_in{x:Int}(b:0<=x)(a:x<256):IntKind.wrap .u8 x=x:=by unfold IntKind.wrap;exact Int.emod_eq_of_lt b a
theorem Gg(Q:Value->AH->Prop)(l:LB)(t:Lh)(n:Nat):endF env (hU l) [] [] [] Q (groS 1 n) ⟨(.node (.node .leaf (some (.gro (u8v l) t 5)) .leaf) (some (.dead)) .leaf),2⟩=(HF (.agg ⟨glue (u8v l) t⟩)/\Q (groS 1 n) ⟨(.node (.node .leaf (some (.gro (glue (u8v l) t) [] 5)) .leaf) (some (.dead)) .leaf),2⟩):=by kernel_rfl
theorem Gf(Q:Value->AH->Prop)(l:LB)(z t:Lh)(n:Nat):endF env (hU l) [] [] [] Q (groS 17 n) ⟨(.node (.node .leaf (some (.cells z 156)) (.node (.node (.node .leaf (some (.gro (u8v l) t 5)) .leaf) none .leaf) none .leaf)) (some (.dead)) .leaf),18⟩=(HF (.agg ⟨glue (u8v l) t⟩)/\Q (groS 1 n) ⟨(.node (.node .leaf (some (.gro (glue (u8v l) t) [] 5)) .leaf) (some (.dead)) .leaf),2⟩):=by kernel_rfl
theorem XA1_ok:XA1.Ok:=⟨ai,aD,am,.cons Bc (.cons s1_tab .nil)⟩
theorem XA2_ok:XA2.Ok:=⟨ai,aD,am,.cons Bc (.cons s2_tab .nil)⟩
theorem GV(l:LB)(x:Nat)(t:x<301)(u:l.length<=10000000000):WalkF env f103 [groS 0 l.length,.int .u64 (x:Int),.int .i64 10] (hU l) (groS 1 (l++tD x).length) (hUE (l++tD x)):=by
 have b:(u8v l).length=l.length:=Hp _;have c:IntKind.wrap .i64 (x:Int)=x:=aF (by omega) (by omega);have a:∀ r:LB,tD x=r->endF env (hU l) [] [] [] (λv1 h=>v1=groS 1 (l++tD x).length/\h=hUE (l++tD x)) (groS 1 (l.length+r.length)) ⟨(.node (.node .leaf (some (.gro (u8v l) (u8v r) 5)) .leaf) (some (.dead)) .leaf),2⟩:=λr g=>by refine(Gg _ l (u8v r) _).mpr ?_;rw[bW,<-eW,g];exact⟨aX _,by rw[E'],rfl⟩
 have f:∀ (r:LB) (z:Lh),tD x=r->endF env (hU l) [] [] [] (λv1 h=>v1=groS 1 (l++tD x).length/\h=hUE (l++tD x)) (groS 17 (l.length+r.length)) ⟨(.node (.node .leaf (some (.cells z 156)) (.node (.node (.node .leaf (some (.gro (u8v l) (u8v r) 5)) .leaf) none .leaf) none .leaf)) (some (.dead)) .leaf),18⟩:=λr z g=>by refine(Gf _ l z (u8v r) _).mpr ?_;rw[bW,<-eW,g];exact⟨aX _,by rw[E'],rfl⟩
 by_cases v:x<10;have hd:tD x=[d8 (x:Int)]:=by unfold tD d8;grind
 refine aC XA1_ok (d:=3) (ns:=[]) (zs:=[]) (ws:=[]) ((EQ _ l (x:Int)).mpr (Sp.intro (λq=>?_) (λq=>absurd (odf q) (by omega))));rw[c];have e:=a _ hd;generalize tD x=T at*;exact⟨⟨by omega,by omega⟩,⟨rfl,by rw[b,HN],by omega,by omega⟩,e⟩;refine aC XA2_ok (d:=3) (ns:=[]) (zs:=[]) (ws:=[]) ((EP _ l (x:Int)).mpr (Sp.intro (λq=>?_) (λq=>?_)));have q:=odt q;have hd:tD x=[d8 ((x:Int)/10),d8 ((x:Int)%10)]:=by unfold tD d8;grind
 rw[c];have e:=a _ hd;generalize tD x=T at*;exact⟨⟨by omega,by omega⟩,⟨rfl,by rw[b,HN],by omega,by omega⟩,e⟩;have q:=odf q;have s:IntKind.wrap .u32 (x:Int)=x:=nA (by omega) (by omega);have p:Int.tmod (x:Int) 100=((x%100:Nat):Int):=by grind
 have o:IntKind.wrap .u32 (((x%100:Nat):Int)*2)=((x%100*2:Nat):Int):=by grind [nA]
 have n:IntKind.wrap .u32 (((x%100*2:Nat):Int)+1)=((x%100*2+1:Nat):Int):=by grind [nA]
 have m:Int.tdiv (x:Int) 100=((x/100:Nat):Int):=by grind
 have k:IntKind.wrap .u32 ((x/100:Nat):Int)=((x/100:Nat):Int):=nA (by omega) (by omega);have j:IntKind.wrap .u32 (48+((x/100:Nat):Int))=((48+x/100:Nat):Int):=by grind [nA]
 have i:IntKind.wrap .u8 ((48+x/100:Nat):Int)=((UInt8.ofNat (48+x/100)).toNat:Int):=by
  rw[u8_in (by omega) (by omega)];have:(UInt8.ofNat (48+x/100)).toNat=48+x/100:=by simp;omega
  rw[this]
 have hd:tD x=[UInt8.ofNat (48+x/100),tB tb99 (x%100*2),tB tb99 (x%100*2+1)]:=by unfold tD;grind
 rw[s,p,o,n,m,k,j,i,sO,sO];have e:=λz=>f _ z hd;generalize tD x=T at*;generalize UInt8.ofNat (48+x/100)=b0 at*;generalize tB tb99 (x%100*2)=b1 at*;generalize tB tb99 (x%100*2+1)=b2 at*;exact⟨⟨by omega,by omega⟩,(by unfold NZ;decide),(by unfold NZ;decide),⟨by omega,by omega⟩,⟨by omega,by omega⟩,⟨rfl,by rw[b,HN],by omega,by omega⟩,e _⟩
def auL(l:Lh)(x:Int):LB:=l.map dU8++tD x.toNat
def spAu:Lh->List AObj->Option (Ll×Value×List AObj)
 | [.slice (some ⟨B,o,none⟩) n k,.int .u64 x,.int .i64 b],[.gro l t e]=>
   bif ((Nat.beq B 0&&Nat.beq o 0)&&(Nat.beq k (unk+3+1)&&Nat.beq e 5))&&decide (b=10)then
    some (some (t=[]/\l=u8v (l.map dU8)/\n=l.length/\(0<=x/\x<301)/\l.length<=10000000000),groS 1 (auL l x).length,[.dead,.gro (u8v (auL l x)) [] e])else none
 |_,_=>none
theorem au_tab:∀ args A p v A',frmR noAr spAu args A=some (p,v,A')->PH p->CallAt env 103 args A v A':=aS ai (fn:=f103) rfl λargs c p v a h f=>by unfold spAu at h;split at h;rename_i B o n k x b l t e;obtain⟨d,h⟩:=bl h;simp only[Hs]at h;obtain⟨rfl,rfl,rfl⟩:=h;simp only[f',Hy,HL]at d;obtain⟨⟨⟨rfl,rfl⟩,rfl,rfl⟩,rfl⟩:=d;obtain⟨rfl,i,rfl,⟨q,m⟩,j⟩:t=[]/\l=u8v (l.map dU8)/\n=l.length/\(0<=x/\x<301)/\l.length<=10000000000:=f;have g:(l.map dU8).length=l.length:=Hp _;unfold auL;generalize l.map dU8=L at*;subst i;obtain⟨y,rfl⟩:∃ y:Nat,x=y:=⟨x.toNat,by omega⟩;rw[D'];have:=GV L y (by omega) (by omega);rw[<-Bv,<-wB]at this;rw[<-g];exact this;cases h
def XIk:SX:=⟨env,[(103,frmR noAr spAu)],elIk,λ_=>.unroll 0⟩
def hIk(l:LB):AH:=⟨(Nd (Nd Lf (some (.gro (u8v l) [] 5)) Lf) (some (.cells [groS 1 l.length] 38)) Lf),2⟩
def jIk(K:KV)(l:LB)(n:Int):Prop:=aN XIk 6 f36 [.pointer (some ⟨0,0,none⟩),.int .i64 n] (hIk l) K
def jIb(K:KV)(l:LB)(b:Bool):Prop:=aN XIk 6 f72 [.pointer (some ⟨0,0,none⟩),.bool b] (hIk l) K
theorem NJ(K:KV)(l:LB)(n:Int):jIk K l n=(Sp (decide (n<0)) (Oo l/\HFs [d_ (u8v l++[A_ 45]),d_ (u8v (auL (u8v l++[A_ 45]) (KE n)))] (([]:Lh)=[]/\u8v l++[A_ 45]=u8v (List.map dU8 (u8v l++[A_ 45]))/\List.length l+1=List.length (u8v l++[A_ 45])/\(0<=IntKind.wrap .u64 (0-IntKind.wrap .u64 n)/\IntKind.wrap .u64 (0-IntKind.wrap .u64 n)<301)/\List.length (u8v l++[A_ 45])<=10000000000)/\(List.all [A_ 32] cellv=true/\List.length (auL (u8v l++[A_ 45]) (KE n))+0=List.length (u8v (auL (u8v l++[A_ 45]) (KE n)))/\List.length (auL (u8v l++[A_ 45]) (KE n))+(1:Nat)<=(70368744177664:Nat)/\(List.length (auL (u8v l++[A_ 45]) (KE n))+1)*(1:Nat)<=(140737488355328:Nat))/\K LF (K_ (Ns (Sg AObj.dead) AObj.dead (KJ [A_ 32] 5)) (m_ [g_ 6 0 (List.length (auL (u8v l++[A_ 45]) (KE n))+1)] 38) (Ns (Sg AObj.dead) (m_ [A_ 45] 5) (Sg (AObj.gro (u8v (auL (u8v l++[A_ 45]) (KE n))) [A_ 32] 5))) 7)) (HFs [d_ (u8v l),d_ (u8v (auL (u8v l) (LL n)))] (([]:Lh)=[]/\u8v l=u8v (U_ l)/\List.length l=List.length (u8v l)/\(0<=IntKind.wrap .u64 n/\IntKind.wrap .u64 n<301)/\List.length (u8v l)<=10000000000)/\(List.all [A_ 32] cellv=true/\List.length (auL (u8v l) (LL n))+0=List.length (u8v (auL (u8v l) (LL n)))/\List.length (auL (u8v l) (LL n))+(1:Nat)<=(70368744177664:Nat)/\(List.length (auL (u8v l) (LL n))+1)*(1:Nat)<=(140737488355328:Nat))/\K LF (K_ (Ns (KJ [A_ 32] 5) AObj.dead Lf) (m_ [g_ 4 0 (List.length (auL (u8v l) (LL n))+1)] 38) (Ns (Sg (AObj.gro (u8v (auL (u8v l) (LL n))) [A_ 32] 5)) AObj.dead Lf) 5))):=by kernel_rfl
theorem jIk_nf:type_of%(by have h:=@NJ;revert h;delta Oo b_ d_ g_ m_ A_ K_ U_ KE KJ LF LL;exact id):=@NJ
theorem NK(K:KV)(l:LB)(b:Bool):jIb K l b=(Sp b ((List.all [A_ 116,A_ 114,A_ 117,A_ 101] cellv=true/\List.length l+0=List.length (u8v l)/\List.length l+(4:Nat)<=(70368744177664:Nat)/\(List.length l+4)*(1:Nat)<=(140737488355328:Nat))/\K LF (K_ (Sg AObj.dead) (m_ [g_ 2 0 (List.length l+4)] 38) (Sg (AObj.gro (u8v l) [A_ 116,A_ 114,A_ 117,A_ 101] 5)) 3)) ((List.all [A_ 102,A_ 97,A_ 108,A_ 115,A_ 101] cellv=true/\List.length l+0=List.length (u8v l)/\List.length l+(5:Nat)<=(70368744177664:Nat)/\(List.length l+5)*(1:Nat)<=(140737488355328:Nat))/\K LF (K_ (Sg AObj.dead) (m_ [g_ 2 0 (List.length l+5)] 38) (Sg (AObj.gro (u8v l) [A_ 102,A_ 97,A_ 108,A_ 115,A_ 101] 5)) 3))):=by kernel_rfl
theorem jIb_nf:type_of%(by have h:=@NK;revert h;delta b_ g_ m_ A_ K_ LF;exact id):=@NK
def ikT(l:LB)(n:Nat):LB:=(l++tD n)++[32]
def boT(b:Bool):LB:=match b with|true=>[116,114,117,101]|false=>[102,97,108,115,101]
def hIkE(l:LB):AH:=⟨(Nd (Nd Lf (some (.dead)) Lf) (some (.cells [groS 2 l.length] 38)) (Nd Lf (some (.gro (u8v l) [] 5)) Lf)),3⟩
theorem end_ik(Q:Value->AH->Prop)(l:LB)(a c t:Lh)(n:Nat):endF env (hIk l) [] [] [] Q (.tuple ⟨[]⟩) ⟨(.node (.node (.node .leaf (some (.cells c 5)) .leaf) (some (.dead)) .leaf) (some (.cells [groS 4 n] 38)) (.node (.node .leaf (some (.gro a t 5)) .leaf) (some (.dead)) .leaf)),5⟩=(HF (.agg ⟨glue a t⟩)/\Q (.tuple ⟨[]⟩) ⟨(.node (.node .leaf (some (.dead)) .leaf) (some (.cells [groS 2 n] 38)) (.node .leaf (some (.gro (glue a t) [] 5)) .leaf)),3⟩):=by kernel_rfl
theorem end_ib(Q:Value->AH->Prop)(l:LB)(a t:Lh)(n:Nat):endF env (hIk l) [] [] [] Q (.tuple ⟨[]⟩) ⟨(.node (.node .leaf (some (.dead)) .leaf) (some (.cells [groS 2 n] 38)) (.node .leaf (some (.gro a t 5)) .leaf)),3⟩=(HF (.agg ⟨glue a t⟩)/\Q (.tuple ⟨[]⟩) ⟨(.node (.node .leaf (some (.dead)) .leaf) (some (.cells [groS 2 n] 38)) (.node .leaf (some (.gro (glue a t) [] 5)) .leaf)),3⟩):=by kernel_rfl
theorem BX:XIk.Ok:=⟨ai,aD,am,.cons au_tab .nil⟩
theorem auL_u(l:LB)(x:Nat):auL (u8v l) (x:Int)=l++tD x:=by unfold auL;rw[jB,D']
theorem Az(n:Nat):(tD n).length<=3:=by grind [tD]
theorem Fc(l:LB)(n:Nat)(g:n<301)(h:l.length<=1000000000):WalkF env f36 [.pointer (some ⟨0,0,none⟩),.int .i64 (n:Int)] (hIk l) (.tuple ⟨[]⟩) (hIkE (ikT l n)):=by
 have b:(u8v l).length=l.length:=Hp _;have w:IntKind.wrap .u64 (n:Int)=n:=qz (by omega) (by omega);have j:=Az n;have i:(l++tD n).length=l.length+(tD n).length:=E';have a:∀ (T:LB) (c:Lh),endF env (hIk l) [] [] [] (λv1 f=>v1=.tuple ⟨[]⟩/\f=hIkE (T++[32])) (.tuple ⟨[]⟩) ⟨(.node (.node (.node .leaf (some (.cells c 5)) .leaf) (some (.dead)) .leaf) (some (.cells [groS 4 (T.length+1)] 38)) (.node (.node .leaf (some (.gro (u8v T) (u8v [32]) 5)) .leaf) (some (.dead)) .leaf)),5⟩:=λT c=>by refine(end_ik _ l (u8v T) c (u8v [32]) _).mpr ?_;rw[bW,<-eW];refine⟨aX _,rfl,?_⟩;unfold hIkE;rw[E'];rfl
 refine aC BX (d:=6) (ns:=[]) (zs:=[]) (ws:=[]) ((jIk_nf _ l (n:Int)).mpr (Sp.intro (λq=>absurd (odt q) (by omega)) (λq=>?_)));rw[w,auL_u];unfold ikT;have a:=a (l++tD n);generalize l++tD n=T at*;have e:(u8v T).length=T.length:=Hp _;refine⟨⟨aX _,aX _,⟨rfl,by rw[jB],by rw[b],⟨by omega,by omega⟩,by omega⟩⟩,⟨rfl,by rw[e,HN],by omega,by omega⟩,a _⟩
theorem Ff(l:LB)(b:Bool)(g:l.length<=1000000000):WalkF env f72 [.pointer (some ⟨0,0,none⟩),.bool b] (hIk l) (.tuple ⟨[]⟩) (hIkE (l++boT b)):=by
 have a:(u8v l).length=l.length:=Hp _;have c:∀ r:LB,endF env (hIk l) [] [] [] (λv1 f=>v1=.tuple ⟨[]⟩/\f=hIkE (l++r)) (.tuple ⟨[]⟩) ⟨(.node (.node .leaf (some (.dead)) .leaf) (some (.cells [groS 2 (l.length+r.length)] 38)) (.node .leaf (some (.gro (u8v l) (u8v r) 5)) .leaf)),3⟩:=λr=>by refine(end_ib _ l (u8v l) (u8v r) _).mpr ?_;rw[bW,<-eW];refine⟨aX _,rfl,?_⟩;unfold hIkE;rw[E']
 refine aC BX (d:=6) (ns:=[]) (zs:=[]) (ws:=[]) ((jIb_nf _ l b).mpr (Sp.intro (λq=>?_) (λq=>?_)));subst q;have e:=c [116,114,117,101];exact⟨⟨rfl,by rw[a,HN],by omega,by omega⟩,e⟩;subst q;have e:=c [102,97,108,115,101];exact⟨⟨rfl,by rw[a,HN],by omega,by omega⟩,e⟩
def spIk:Lh->List AObj->Option (Ll×Value×List AObj)
 | [.pointer (some ⟨B,o,none⟩),.int .i64 n],[.cells [.slice (some ⟨B1,o1,none⟩) n1 k1] e0,.gro l t e]=>
   bif ((Nat.beq B 0&&Nat.beq o 0)&&(Nat.beq B1 1&&Nat.beq o1 0))&&(Nat.beq k1 (unk+3+1)&&(Nat.beq e0 38&&Nat.beq e 5))then
    some (some ((t=[]/\l=u8v (l.map dU8)/\n1=l.length)/\(0<=n/\n<301)/\l.length<=1000000000),.tuple ⟨[]⟩,[.cells [groS 2 (ikT (l.map dU8) n.toNat).length] e0,.dead,.gro (u8v (ikT (l.map dU8) n.toNat)) [] e])else none
 |_,_=>none
def spIb:Lh->List AObj->Option (Ll×Value×List AObj)
 | [.pointer (some ⟨B,o,none⟩),.bool b],[.cells [.slice (some ⟨B1,o1,none⟩) n1 k1] e0,.gro l t e]=>
   bif ((Nat.beq B 0&&Nat.beq o 0)&&(Nat.beq B1 1&&Nat.beq o1 0))&&(Nat.beq k1 (unk+3+1)&&(Nat.beq e0 38&&Nat.beq e 5))then
    some (some ((t=[]/\l=u8v (l.map dU8)/\n1=l.length)/\l.length<=1000000000),.tuple ⟨[]⟩,[.cells [groS 2 ((l.map dU8)++boT b).length] e0,.dead,.gro (u8v ((l.map dU8)++boT b)) [] e])else none
 |_,_=>none
theorem kj(l:LB):aQ [.cells [groS 1 l.length] 38,.gro (u8v l) [] 5]=hIk l:=by kernel_rfl
theorem gT(l:LB):aQ [.cells [groS 2 l.length] 38,.dead,.gro (u8v l) [] 5]=hIkE l:=by kernel_rfl
theorem rP:∀ args A p v A',frmR noAr spIk args A=some (p,v,A')->PH p->CallAt env 36 args A v A':=aS ai (fn:=f36) rfl λargs b p v a h f=>by unfold spIk at h;split at h;rename_i B o n u j d k s l t e;obtain⟨c,h⟩:=bl h;simp only[Hs]at h;obtain⟨rfl,rfl,rfl⟩:=h;simp only[f',Hy]at c;obtain⟨⟨⟨rfl,rfl⟩,rfl,rfl⟩,rfl,rfl,rfl⟩:=c;obtain⟨⟨rfl,i,rfl⟩,⟨r,q⟩,m⟩:(t=[]/\l=u8v (l.map dU8)/\d=l.length)/\(0<=n/\n<301)/\l.length<=1000000000:=f;have g:(l.map dU8).length=l.length:=Hp _;generalize l.map dU8=L at*;subst i;obtain⟨y,rfl⟩:∃ y:Nat,n=y:=⟨n.toNat,by omega⟩;rw[D'];have:=Fc L y (by omega) (by omega);rw[<-kj,<-gT]at this;rw[<-g];exact this;cases h
theorem ib_tab:∀ args A p v A',frmR noAr spIb args A=some (p,v,A')->PH p->CallAt env 72 args A v A':=aS ai (fn:=f72) rfl λargs c p v a h g=>by unfold spIb at h;split at h;rename_i B o b r k f m q l t e;obtain⟨d,h⟩:=bl h;simp only[Hs]at h;obtain⟨rfl,rfl,rfl⟩:=h;simp only[f',Hy]at d;obtain⟨⟨⟨rfl,rfl⟩,rfl,rfl⟩,rfl,rfl,rfl⟩:=d;obtain⟨⟨rfl,j,rfl⟩,n⟩:(t=[]/\l=u8v (l.map dU8)/\f=l.length)/\l.length<=1000000000:=g;have i:(l.map dU8).length=l.length:=Hp _;generalize l.map dU8=L at*;subst j;have:=Ff L b (by omega);rw[<-kj,<-gT]at this;rw[<-i];exact this;cases h
def elBs:El:={elT [] [18]with app:=true,gm:=λ_=>true}
def XBs:SX:=⟨env,[(36,frmR noAr spIk),(72,frmR noAr spIb)],elBs,λ_=>.autoN [] [] [] [0,1,4]⟩
def elIs:El:={elT [] []with app:=true,gm:=λ_=>true}
def XIs:SX:=⟨env,[(36,frmR noAr spIk)],elIs,λ_=>.autoN [] [] [] [0,1,4]⟩
def frBs(v:Value)(i:Nat):T Value:=(Nd (Nd Lf (some (v)) Lf) (some (.pointer (some ⟨0,0,none⟩))) (Nd (Nd Lf (some (.int .i64 i)) Lf) none Lf))
noncomputable def nBs:Nat:=Func.ntmps f37
noncomputable def bBs:Code:=ay f37
noncomputable def nIs:Nat:=Func.ntmps f38
noncomputable def bIs:Code:=ay f38
def kFinBs(K:KV):KX:=finK env (f37.results).toList K
def kFinIs(K:KV):KX:=finK env (f38.results).toList K
def jBs(K:KV)(l:LB)(a:Li):Prop:=aN XBs 2 f37 [.pointer (some ⟨0,0,none⟩),dat 1 (blV a)] (hIk l) K
def jBsL(K:KV)(c:KF)(b l:LB)(a:Li)(i:Nat):Prop:=aI XBs 2 nBs (hIk b) bBs [1,1,0] (kFinBs K) [] [] [] [0,1,4] c (frBs (dat 1 (blV a)) i) (hIkE l)
def jIs(K:KV)(l:LB)(r:Le):Prop:=aN XIs 2 f38 [.pointer (some ⟨0,0,none⟩),dat 1 (inV r)] (hIk l) K
def jIsL(K:KV)(b:KF)(a l:LB)(r:Le)(i:Nat):Prop:=aI XIs 2 nIs (hIk a) bIs [1,1,0] (kFinIs K) [] [] [] [0,1,4] b (frBs (dat 1 (inV r)) i) (hIkE l)
abbrev Ln:=λa=>K_ (Sg AObj.dead) (m_ [g_ 2 0 (k_ a)] 38) (Sg (l_ (u8v a) 5)) 3
abbrev Lx:=λa b=>ikT (U_ a) (G_ b)
abbrev Oh(a:LB):Prop:=(([]:Lh)=[]/\u8v a=u8v (U_ a)/\List.length a=List.length (u8v a))
theorem NM(K:KV)(l:LB)(a:Li):jBs K l a=(HFs [d_ (u8v l),d_ (u8v (Lx l (j_ (blV a))))] (Oh l/\(0<=j_ (blV a)/\j_ (blV a)<301)/\List.length (u8v l)<=1000000000)/\U' a/\Kt (u8v (Lx l (j_ (blV a))))/\LAtZ XBs 2 f37.ntmps (hIk l) (ay f37) [1,1,0] (finK (SX.E XBs) f37.results.toList K) (Ns (Sg (P' a)) i_ (H_ (Vi 0))) (Ln (Lx l (j_ (blV a))))):=by kernel_rfl
theorem jBs_nf:type_of%(by have h:=@NM;revert h;delta Oh b_ d_ g_ i_ j_ k_ l_ m_ G_ H_ K_ U_ P' U' Kt Ln Lx;exact id):=@NM
theorem NN(K:KV)(b:KF)(c:LB)(l:LB)(a:Li)(i:Nat):jBsL K b c l a i=(Sp (decide ((i:Int)<j_ (blV a))) ((0<=(i:Int)/\(i:Int)<j_ (blV a))/\nth (blV a) i=some (Lt (blV a) i)/\HFs [d_ (u8v l),d_ (u8v (List.map dU8 (u8v l)++boT (az (blV a) i)))] (Oh l/\List.length (u8v l)<=1000000000)/\U' a/\Kt (u8v (List.map dU8 (u8v l)++boT (az (blV a) i)))/\b (Ns (Sg (P' a)) i_ (No (x_ ((i:Int)+1)) Lf)) (Ln (List.map dU8 (u8v l)++boT (az (blV a) i)))) (K LF (Ln l))):=by kernel_rfl
theorem EN:type_of%(by have h:=@NN;revert h;delta Oh b_ d_ g_ i_ j_ k_ l_ m_ x_ K_ U_ P' U' Kt Ln Lt LF;exact id):=@NN
theorem NO(K:KV)(l:LB)(r:Le):jIs K l r=(HFs [d_ (u8v l),d_ (u8v (Lx l (j_ (inV r))))] (Oh l/\(0<=j_ (inV r)/\j_ (inV r)<301)/\List.length (u8v l)<=1000000000)/\HF (Vd 1 (inV r))/\Kt (u8v (Lx l (j_ (inV r))))/\LAtZ XIs 2 f38.ntmps (hIk l) (ay f38) [1,1,0] (finK (SX.E XIs) f38.results.toList K) (Ns (Sg (Vd 1 (inV r))) i_ (H_ (Vi 0))) (Ln (Lx l (j_ (inV r))))):=by kernel_rfl
theorem jIs_nf:type_of%(by have h:=@NO;revert h;delta Oh b_ d_ g_ i_ j_ k_ l_ m_ G_ H_ K_ U_ Kt Ln Lx;exact id):=@NO
theorem NP(K:KV)(a:KF)(b:LB)(l:LB)(r:Le)(i:Nat):jIsL K a b l r i=(Sp (decide ((i:Int)<j_ (inV r))) ((0<=(i:Int)/\(i:Int)<j_ (inV r))/\nth (inV r) i=some (Vi (P_ r i))/\HFs [d_ (u8v l),d_ (u8v (Lx l (P_ r i)))] (Oh l/\(0<=aa (inV r) i/\aa (inV r) (i:Int)<301)/\List.length (u8v l)<=1000000000)/\HF (Vd 1 (inV r))/\Kt (u8v (Lx l (P_ r i)))/\a (Ns (Sg (Vd 1 (inV r))) i_ (No (x_ ((i:Int)+1)) Lf)) (Ln (Lx l (P_ r i)))) (K LF (Ln l))):=by kernel_rfl
theorem Ej:type_of%(by have h:=@NP;revert h;delta Oh b_ d_ g_ i_ j_ k_ l_ m_ x_ G_ K_ P_ U_ Kt Ln Lx LF;exact id):=@NP
def bsT(l:LB)(a:Li):LB:=a.foldl (λt b=>t++boT b) (ikT l a.length)
def isT(l:LB)(r:Lg):LB:=r.foldl ikT (ikT l r.length)
theorem eD(l:LB)(n:Nat):(ikT l n).length<=l.length+4:=by grind [Az,ikT,E']
theorem GQ(b:Bool):(boT b).length<=5:=by cases b<;>simp[boT]
theorem p9:∀ (bs:Li) (t:LB),(bs.foldl (λt b=>t++boT b) t).length<=t.length+5*bs.length
 | [],t=>by simp
 |b::bs,t=>by have:=p9 bs (t++boT b);grind [GQ,E',JR,HW]
theorem p8:∀ (r:Lg) (t:LB),(r.foldl ikT t).length<=t.length+4*r.length
 | [],t=>by simp
 |x::r,t=>by have:=p8 r (ikT t x);grind [eD,JR,HW]
theorem p6{b a :Type}(f: a -> b -> a)(t: a){l:List b}{i:Nat}(h:i<l.length):(l.take (i+1)).foldl f t=f ((l.take i).foldl f t) l[i]:=by rw[HC h,List.foldl_append];rfl
theorem BG(Q:Value->AH->Prop)(a l:LB):endF env (hIk a) [] [] [] Q (.tuple ⟨[]⟩) (hIkE l)=(HF (.agg ⟨u8v l⟩)/\Q (.tuple ⟨[]⟩) (hIkE l)):=by kernel_rfl
theorem B9:XBs.Ok:=⟨ai,aD,am,.cons rP (.cons ib_tab .nil)⟩
theorem BW:XIs.Ok:=⟨ai,aD,am,.cons rP .nil⟩
theorem GM(l:LB)(bs:Li)(v:bs.length<=300)(s:l.length<=500000000):WalkF env f37 [.pointer (some ⟨0,0,none⟩),dat 1 (blV bs)] (hIk l) (.tuple ⟨[]⟩) (hIkE (bsT l bs)):=by
 have g:(u8v l).length=l.length:=Hp _;have p:=aT bs;refine aC B9 (d:=2) (ns:=[]) (zs:=[]) (ws:=[]) ((jBs_nf _ l bs).mpr ?_);rw[jB,p,D'];refine⟨⟨aX _,aX _,⟨⟨rfl,rfl,by rw[g]⟩,⟨by omega,by omega⟩,by omega⟩⟩,.dat (ax _),aX _,?_⟩;have u:=eD l bs.length;unfold bsT;generalize ikT l bs.length=t0 at*;refine LAtZ.stepF B9 [] [] [] [0,1,4] (by kernel_rfl) (λm G A=>∃ i:Nat,G=frBs (dat 1 (blV bs)) i/\A=hIkE ((bs.take i).foldl (λt b=>t++boT b) t0)/\i+m=bs.length) ?_ (k:=bs.length) ⟨0,rfl,rfl,by omega⟩;rintro m G A ⟨i,rfl,rfl,r⟩;have o:=p9 (bs.take i) t0;rw[Ic]at o;have f:i=bs.length->(bs.take i).foldl (λt b=>t++boT b) t0=bs.foldl (λt b=>t++boT b) t0:=λe=>by rw[e,HX]
 have j:=λh=>p6 (λ(t:LB) b=>t++boT b) t0 (l:=bs) (i:=i) h;generalize q:(bs.take i).foldl (λt b=>t++boT b) t0=l2 at*;have a:(u8v l2).length=l2.length:=Hp _;refine(EN _ _ l l2 bs i).mpr (Sp.intro (λc=>?_) (λc=>?_));have c:=odt c;have n:i<bs.length:=by omega
 rw[bw n,jB,aF (x:=(i:Int)+1) (by omega) (by omega)];refine⟨⟨by omega,by omega⟩,dj n,⟨aX _,aX _,⟨⟨rfl,rfl,by rw[a]⟩,by omega⟩⟩,.dat (ax _),aX _,m-1,by omega,i+1,rfl,?_,by omega⟩;rw[j n];rfl;have c:=odf c;rw[<-f (by omega)];exact(BG _ l l2).mpr ⟨aX _,rfl,rfl⟩
theorem E7(l:LB)(r:Lg)(t:∀ x∈r,x<301)(B:r.length<=300)(y:l.length<=500000000):WalkF env f38 [.pointer (some ⟨0,0,none⟩),dat 1 (inV (inF r))] (hIk l) (.tuple ⟨[]⟩) (hIkE (isT l r)):=by
 have j:(u8v l).length=l.length:=Hp _;have p:(inV (inF r)).length=r.length:=by rw[af,ao]
 have s:=ao r;refine aC BW (d:=2) (ns:=[]) (zs:=[]) (ws:=[]) ((jIs_nf _ l (inF r)).mpr ?_);rw[jB,p,D'];refine⟨⟨aX _,aX _,⟨⟨rfl,rfl,by rw[j]⟩,⟨by omega,by omega⟩,by omega⟩⟩,.dat (o9 _),aX _,?_⟩;have z:=eD l r.length;unfold isT;generalize ikT l r.length=t0 at*;refine LAtZ.stepF BW [] [] [] [0,1,4] (by kernel_rfl) (λm G A=>∃ i:Nat,G=frBs (dat 1 (inV (inF r))) i/\A=hIkE ((r.take i).foldl ikT t0)/\i+m=r.length) ?_ (k:=r.length) ⟨0,rfl,rfl,by omega⟩;rintro m G A ⟨i,rfl,rfl,v⟩;have o:=p8 (r.take i) t0;rw[Ic]at o;have f:i=r.length->(r.take i).foldl ikT t0=r.foldl ikT t0:=λe=>by rw[e,HX]
 have n:=λh=>p6 ikT t0 (l:=r) (i:=i) h;generalize u:(r.take i).foldl ikT t0=l2 at*;have a:(u8v l2).length=l2.length:=Hp _;refine(Ej _ _ l l2 (inF r) i).mpr (Sp.intro (λc=>?_) (λc=>?_));have c:=odt c;have g:i<r.length:=by omega
 have b:i<(inF r).length:=by omega
 have w:=t _ (Hq g);have q:nth (inV (inF r)) i=some (Vi (r[i]:Nat)):=by rw[aL b,bD g]
 rw[aA b,bD g,jB,D',aF (x:=(i:Int)+1) (by omega) (by omega)];refine⟨⟨by omega,by omega⟩,q,⟨aX _,aX _,⟨⟨rfl,rfl,by rw[a]⟩,⟨by omega,by omega⟩,by omega⟩⟩,.dat (o9 _),aX _,m-1,by omega,i+1,rfl,?_,by omega⟩;rw[n g];rfl;have c:=odf c;rw[<-f (by omega)];exact(BG _ l l2).mpr ⟨aX _,rfl,rfl⟩
def spBs:Lh->List AObj->Option (Ll×Value×List AObj)
 | [.pointer (some ⟨B,o,none⟩),.func (.yield sz) ⟨bs⟩ ⟨[]⟩],[.cells [.slice (some ⟨B1,o1,none⟩) n1 k1] e0,.gro l t e]=>
   bif ((Nat.beq B 0&&Nat.beq o 0)&&(Nat.beq B1 1&&Nat.beq o1 0))&&((Nat.beq sz 1&&Nat.beq k1 (unk+3+1))&&(Nat.beq e0 38&&Nat.beq e 5))then
    some (some ((t=[]/\l=u8v (l.map dU8)/\n1=l.length)/\(bs=blV (bs.map deB)/\bs.length<=300)/\l.length<=500000000),.tuple ⟨[]⟩,[.cells [groS 2 (bsT (l.map dU8) (bs.map deB)).length] e0,.dead,.gro (u8v (bsT (l.map dU8) (bs.map deB))) [] e])else none
 |_,_=>none
def spIs:Lh->List AObj->Option (Ll×Value×List AObj)
 | [.pointer (some ⟨B,o,none⟩),.func (.yield sz) ⟨r⟩ ⟨[]⟩],[.cells [.slice (some ⟨B1,o1,none⟩) n1 k1] e0,.gro l t e]=>
   bif ((Nat.beq B 0&&Nat.beq o 0)&&(Nat.beq B1 1&&Nat.beq o1 0))&&((Nat.beq sz 1&&Nat.beq k1 (unk+3+1))&&(Nat.beq e0 38&&Nat.beq e 5))then
    some (some ((t=[]/\l=u8v (l.map dU8)/\n1=l.length)/\(r=inV (inF (toN r))/\(∀x∈toN r,x<301)/\(toN r).length<=300)/\l.length<=500000000),.tuple ⟨[]⟩,[.cells [groS 2 (isT (l.map dU8) (toN r)).length] e0,.dead,.gro (u8v (isT (l.map dU8) (toN r))) [] e])else none
 |_,_=>none
theorem bs_tab:∀ args A p v A',frmR noAr spBs args A=some (p,v,A')->PH p->CallAt env 37 args A v A':=aS ai (fn:=f37) rfl λargs c p v b h g=>by unfold spBs at h;split at h;rename_i B o m a x n f q w l t e;obtain⟨d,h⟩:=bl h;simp only[Hs]at h;obtain⟨rfl,rfl,rfl⟩:=h;simp only[f',Hy]at d;obtain⟨⟨⟨rfl,rfl⟩,rfl,rfl⟩,⟨rfl,rfl⟩,rfl,rfl⟩:=d;obtain⟨⟨rfl,k,rfl⟩,⟨j,u⟩,s⟩:(t=[]/\l=u8v (l.map dU8)/\f=l.length)/\(a=blV (a.map deB)/\a.length<=300)/\l.length<=500000000:=g;have i:(l.map dU8).length=l.length:=Hp _;have r:(a.map deB).length=a.length:=Hp _;generalize l.map dU8=L at*;generalize a.map deB=D at*;subst k;subst j;have:=GM L D (by omega) (by omega);rw[<-kj,<-gT]at this;rw[<-i];exact this;cases h
theorem is_tab:∀ args A p v A',frmR noAr spIs args A=some (p,v,A')->PH p->CallAt env 38 args A v A':=aS ai (fn:=f38) rfl λargs b p v a h f=>by unfold spIs at h;split at h;rename_i B o n r y q d s w l t e;obtain⟨c,h⟩:=bl h;simp only[Hs]at h;obtain⟨rfl,rfl,rfl⟩:=h;simp only[f',Hy]at c;obtain⟨⟨⟨rfl,rfl⟩,rfl,rfl⟩,⟨rfl,rfl⟩,rfl,rfl⟩:=c;obtain⟨⟨rfl,m,rfl⟩,⟨k,j,i⟩,u⟩:(t=[]/\l=u8v (l.map dU8)/\d=l.length)/\(r=inV (inF (toN r))/\(∀x∈toN r,x<301)/\(toN r).length<=300)/\l.length<=500000000:=f;have g:(l.map dU8).length=l.length:=Hp _;generalize l.map dU8=L at*;generalize toN r=D at*;subst m;subst k;have:=E7 L D j i (by omega);rw[<-kj,<-gT]at this;rw[<-g];exact this;cases h
def elAt:El:={elT [29] []with app:=true,gm:=λ_=>true}
def XAt:SX:=⟨env,[(36,frmR noAr spIk),(37,frmR noAr spBs),(38,frmR noAr spIs)],elAt,λ_=>.autoN [] [] [] [0,3,4]⟩
noncomputable def nAt:Nat:=Func.ntmps f16
noncomputable def bAt:Code:=ay f16
def kFinAt(K:KV):KX:=finK env (f16.results).toList K
def frAt(i:Nat):T Value:=(Nd (Nd (Nd Lf (some (.pointer (some ⟨2,0,none⟩))) Lf) none Lf) (some (.pointer (some ⟨0,0,none⟩))) (Nd (Nd Lf (some (.int .i64 i)) Lf) none Lf))
def hAt(l:LB)(s:Int)(b:Li)(a:La):AH:=⟨(Nd (Nd (Nd Lf (some (.gro (u8v l) [] 5)) Lf) (some (.dead)) Lf) (some (.cells [groS 3 l.length] 38)) (Nd Lf (some (auC s b a)) Lf)),4⟩
def jAt(K:KV)(l:LB)(s:Int)(b:Li)(a:La):Prop:=aN XAt 2 f16 [.pointer (some ⟨0,0,none⟩),.agg ⟨[.int .i64 s,dat 1 (blV b),dat 1 (roV a)]⟩] (hIk l) K
def jAtL(K:KV)(d:KF)(c l:LB)(s:Int)(a:Li)(b:La)(i:Nat):Prop:=aI XAt 2 nAt (hIk c) bAt [1,1,1,1,1,0] (kFinAt K) [] [] [] [0,3,4] d (frAt i) (hAt l s a b)
theorem NQ(K:KV)(l:LB)(s:Int)(a:Li)(b:La):jAt K l s a b=(HFs [d_ (u8v l),d_ (u8v (Lx l s))] (Oh l/\(0<=s/\s<301)/\List.length (u8v l)<=1000000000)/\HFs [P' a,d_ (u8v (Lx l s)),d_ (u8v (bsT (U_ (Lx l s)) (v_ a)))] ((([]:Lh)=[]/\u8v (Lx l s)=u8v (U_ (Lx l s))/\List.length (Lx l s)=List.length (u8v (Lx l s)))/\(blV a=blV (v_ a)/\List.length (blV a)<=300)/\List.length (u8v (Lx l s))<=500000000)/\HFs [d_ (u8v (bsT (U_ (Lx l s)) (v_ a))),d_ (u8v (Lx (bsT (U_ (Lx l s)) (v_ a)) (KY b)))] ((([]:Lh)=[]/\u8v (bsT (U_ (Lx l s)) (v_ a))=u8v (U_ (bsT (U_ (Lx l s)) (v_ a)))/\List.length (bsT (U_ (Lx l s)) (v_ a))=List.length (u8v (bsT (U_ (Lx l s)) (v_ a))))/\(0<=KY b/\KY b<301)/\List.length (u8v (bsT (U_ (Lx l s)) (v_ a)))<=1000000000)/\U' a/\LQ b/\Kt (u8v (Lx (bsT (U_ (Lx l s)) (v_ a)) (KY b)))/\LAtZ XAt 2 f16.ntmps (hIk l) (ay f16) [1,1,1,1,1,0] (finK (SX.E XAt) f16.results.toList K) (Ns (H_ (c_ 2 0)) i_ (H_ (Vi 0))) (K_ (Ns (Lu (u8v (Lx (bsT (U_ (Lx l s)) (v_ a)) (KY b))) 5) AObj.dead Lf) (m_ [g_ 3 0 (k_ (Lx (bsT (U_ (Lx l s)) (v_ a)) (KY b)))] 38) (Sg (h_ s a b)) 4)):=by kernel_rfl
theorem jAt_nf:type_of%(by have h:=@NQ;revert h;delta Oh b_ c_ d_ g_ h_ i_ j_ k_ l_ m_ v_ G_ H_ K_ S_ U_ P' U' Kt KY Lu Lx LQ;exact id):=@NQ
theorem NR(K:KV)(c:KF)(d:LB)(l:LB)(s:Int)(b:Li)(a:La)(i:Nat):jAtL K c d l s b a i=(Sp (decide ((i:Int)<KY a)) ((0<=(i:Int)/\(i:Int)<KY a)/\nth (roV a) i=some (Vd 1 (ae (roV a) i))/\HFs [Vd 1 (ae (roV a) i),d_ (u8v l),d_ (u8v (isT (U_ l) (toN (ae (roV a) i))))] (Oh l/\(ae (roV a) (i:Int)=inV (inF (toN (ae (roV a) i)))/\(∀(x:Nat),x∈toN (ae (roV a) i)->x<301)/\List.length (toN (ae (roV a) i))<=300)/\List.length (u8v l)<=500000000)/\U' b/\LQ a/\Kt (u8v (isT (U_ l) (toN (ae (roV a) i))))/\c (Ns (H_ (c_ 2 0)) i_ (No (x_ ((i:Int)+1)) Lf)) (K_ (Ns (Lu (u8v (isT (U_ l) (toN (ae (roV a) i)))) 5) AObj.dead Lf) (m_ [g_ 3 0 (k_ (isT (U_ l) (toN (ae (roV a) i))))] 38) (Sg (h_ s b a)) 4)) (K LF (K_ (Ns (Lu (u8v l) 5) AObj.dead Lf) (m_ [g_ 3 0 (k_ l)] 38) (Sg (h_ s b a)) 4))):=by kernel_rfl
theorem ES:type_of%(by have h:=@NR;revert h;delta Oh b_ c_ d_ g_ h_ i_ j_ k_ l_ m_ x_ H_ K_ S_ U_ U' Kt KY Lu LF LQ;exact id):=@NR
structure TOk (a:AU):Prop where
 s:0<=a.1/\a.1<301
 acc:a.2.1.length<=300
 nx:a.2.2.length<=300
 row:∀ r∈a.2.2,r.length<=300/\∀ x∈r,0<=x/\x<301
def rwT(t:LB)(r:Le):LB:=isT t (r.map Int.toNat)
def auT(l:LB)(a:AU):LB:=a.2.2.foldl rwT (ikT (bsT (ikT l a.1.toNat) a.2.1) a.2.2.length)
theorem Cl(r:Le):toN (inV r)=r.map Int.toNat:=by unfold toN;rw[cX]
theorem Fb{r:Le}(h:∀ x∈r,0<=x):inF (r.map Int.toNat)=r:=by
 unfold inF;rw[H4];conv=>rhs;rw[<-IC r]
 grind [HQ]
theorem C6(t:LB){r:Le}(h:r.length<=300):(rwT t r).length<=t.length+1300:=by grind [rwT,isT,p8,Int.toNat,ikT,eD,Hp]
theorem p7:∀ (nx:La) (t:LB),(∀r∈nx,r.length<=300)->(nx.foldl rwT t).length<=t.length+1300*nx.length
 | [],t,_=>by simp
 |r::nx,t,h=>by have b:=p7 nx (rwT t r) λx a=>h x (HO _ a);grind [C6,HT,JR,HW]
theorem xS(l:LB)(bs:Li):(bsT l bs).length<=l.length+4+5*bs.length:=by grind [p9,ikT,eD,bsT]
theorem Ca:XAt.Ok:=⟨ai,aD,am,.cons rP (.cons bs_tab (.cons is_tab .nil))⟩
theorem end_at(Q:Value->AH->Prop)(b l:LB)(s:Int)(c:Li)(a:La):endF env (hIk b) [] [] [] Q (.tuple ⟨[]⟩) (hAt l s c a)=(HF (.agg ⟨u8v l⟩)/\Q (.tuple ⟨[]⟩) (hIkE l)):=by kernel_rfl
theorem GW(l:LB){a:AU}(h:TOk a)(N:l.length<=1000):WalkF env f16 [.pointer (some ⟨0,0,none⟩),auV a] (hIk l) (.tuple ⟨[]⟩) (hIkE (auT l a)):=by
 obtain⟨s,f,b⟩:=a;obtain⟨v,C,z,q⟩:=h;dsimp only at v C z q;unfold auT;dsimp only;have j:∀ T:LB,(u8v T).length=T.length:=λT=>Hp _;have E:=aT f;have y:=aG b;have M:=eD l s.toNat;refine aC Ca (d:=2) (ns:=[]) (zs:=[]) (ws:=[]) ((jAt_nf _ l s f b).mpr ?_);simp only[jB,bf,y,D'];generalize ikT l s.toNat=t1 at*;have L:=xS t1 f;generalize bsT t1 f=t2 at*;have K:=eD t2 b.length;generalize ikT t2 b.length=t0 at*;have J:=j l;have I:=j t1;have H:=j t2;refine⟨⟨aX _,aX _,⟨⟨trivial,trivial,by omega⟩,v,by omega⟩⟩,⟨.dat (ax _),aX _,aX _,⟨⟨trivial,trivial,by omega⟩,⟨trivial,by omega⟩,by omega⟩⟩,⟨aX _,aX _,⟨⟨trivial,trivial,by omega⟩,⟨by omega,by omega⟩,by omega⟩⟩,.dat (ax _),.dat (aq _),aX _,?_⟩;refine LAtZ.stepF Ca [] [] [] [0,3,4] (by kernel_rfl) (λm G A=>∃ i:Nat,G=frAt i/\A=hAt ((b.take i).foldl rwT t0) s f b/\i+m=b.length) ?_ (k:=b.length) ⟨0,rfl,rfl,by omega⟩;rintro m G A ⟨i,rfl,rfl,B⟩;have u:=p7 (b.take i) t0 λr n=>(q r (IJ n)).1;rw[Ic]at u;have g:i=b.length->(b.take i).foldl rwT t0=b.foldl rwT t0:=λe=>by rw[e,HX]
 have p:=λh=>p6 rwT t0 (l:=b) (i:=i) h;generalize (b.take i).foldl rwT t0=l3 at*;have F:=j l3;refine(ES _ _ l l3 s f b i).mpr (Sp.intro (λc=>?_) (λc=>?_));have c:=odt c;have o:i<b.length:=by omega
 obtain⟨D,w⟩:=q _ (Hq o);have t:=Fb (r:=b[i]) λx n=>(w x n).1;rw[bL o,jB,Cl,t,aF (x:=(i:Int)+1) (by omega) (by omega)];refine⟨⟨by omega,by omega⟩,cG o,⟨.dat (o9 _),aX _,aX _,⟨⟨rfl,rfl,by omega⟩,⟨rfl,λx n=>?_,by grind⟩,by omega⟩⟩,.dat (ax _),.dat (aq _),aX _,m-1,by omega,i+1,rfl,?_,by omega⟩;grind;rw[p o];rfl;have c:=odf c;rw[<-g (by omega)];exact(end_at _ l l3 s f b).mpr ⟨aX _,rfl,rfl⟩
def spAt:Lh->List AObj->Option (Ll×Value×List AObj)
 | [.pointer (some ⟨B,o,none⟩),u],[.cells [.slice (some ⟨B1,o1,none⟩) n1 k1] e0,.gro l t e]=>(match auQ u with
   | some a=>bif ((Nat.beq B 0&&Nat.beq o 0)&&(Nat.beq B1 1&&Nat.beq o1 0))&&(Nat.beq k1 (unk+3+1)&&(Nat.beq e0 38&&Nat.beq e 5))then
     some (some ((t=[]/\l=u8v (l.map dU8)/\n1=l.length)/\(u=auV a/\TOk a)/\l.length<=1000),.tuple ⟨[]⟩,[.cells [groS 2 (auT (l.map dU8) a).length] e0,.dead,.gro (u8v (auT (l.map dU8) a)) [] e])else none
   |none=>none)
 |_,_=>none
theorem at_tab:∀ args A p v A',frmR noAr spAt args A=some (p,v,A')->PH p->CallAt env 16 args A v A':=aS ai (fn:=f16) rfl λargs c p v b h g=>by unfold spAt at h;split at h;rename_i B o u w m f n s l t e;split at h;rename_i a q;obtain⟨d,h⟩:=bl h;simp only[Hs]at h;obtain⟨rfl,rfl,rfl⟩:=h;simp only[f',Hy]at d;obtain⟨⟨⟨rfl,rfl⟩,rfl,rfl⟩,rfl,rfl,rfl⟩:=d;obtain⟨⟨rfl,k,rfl⟩,⟨rfl,j⟩,r⟩:(t=[]/\l=u8v (l.map dU8)/\f=l.length)/\(u=auV a/\TOk a)/\l.length<=1000:=g;have i:(l.map dU8).length=l.length:=Hp _;generalize l.map dU8=L at*;subst k;have:=GW L j (by omega);rw[<-kj,<-gT]at this;rw[<-i];exact this;cases h;cases h
def elTd:El:={elT [] []with app:=true,gm:=λ_=>true,hk:=λd=>match d with|some 7=>[(.cell 7 0,5,1)]|_=>[]}
def XTd:SX:=⟨env,[(16,frmR noAr spAt),(36,frmR noAr spIk)],elTd,λ_=>.unroll 0⟩
def jTd(K:KV)(s:Int)(b:Li)(a:La)(e:Int):Prop:=aN XTd 3 f5 [.agg ⟨[.int .i64 s,dat 1 (blV b),dat 1 (roV a)]⟩,.int .i64 e] ⟨.leaf,0⟩ K
end
end Go.T9
