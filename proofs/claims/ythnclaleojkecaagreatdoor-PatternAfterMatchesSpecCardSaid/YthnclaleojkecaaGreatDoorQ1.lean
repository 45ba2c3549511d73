/- A part of the proof. -/
import Derived.Test.YthnclaleojkecaaGreatDoorN8
import Derived.Test.YthnclaleojkecaaGreatDoorF2
import Derived.Test.YthnclaleojkecaaGreatDoorX2
import Derived.Test.YthnclaleojkecaaGreatDoorX1
import Derived.Test.YthnclaleojkecaaGreatDoorX4
import Derived.Test.YthnclaleojkecaaGreatDoorY1
import Derived.Test.YthnclaleojkecaaGreatDoorY2
set_option linter.unusedVariables false
set_option linter.unusedSimpArgs false
set_option maxRecDepth 1000000
namespace Go.T9
open Go Go.AM Go.MK Go.HK Go.Proofs.Tryz
noncomputable section
def okN3(n:Nat):Bool:=match iw env1 (evN env1 100000) 90 [.int .u64 n] ⟨.leaf,0⟩with
 |some (.int .i64 m,_)=>decide (m=3)
 |_=>false
def qA:Nat->Nat->Bool
 |_,0=>true
 |m,k+1=>okN3 m&&qA (m+1) k
theorem fk:∀ {k m n:Nat},qA m k=true->m<=n->n<m+k->okN3 n=true
 |0,m,n,_,h1,h2=>by omega
 |k+1,m,n,h,h1,h2=>by simp only[qA,f']at h;by_cases e:n=m;subst e;exact h.1;exact fk h.2 (by omega) (by omega)
theorem n3a:qA 100 51=true:=by kernel_rfl
theorem n3b:qA 151 50=true:=by kernel_rfl
theorem n3c:qA 201 50=true:=by kernel_rfl
theorem n3d:qA 251 50=true:=by kernel_rfl
theorem yR{n:Nat}(d:100<=n)(e:n<301):okN3 n=true:=by by_cases a:n<151;exact fk n3a d (by omega);by_cases b:n<201;exact fk n3b (by omega) (by omega);by_cases c:n<251;exact fk n3c (by omega) (by omega);exact fk n3d (by omega) (by omega)
def n3Y:Lh->Lj
 | [.int .u64 x]=>bif decide (100<=x)&&decide (x<301)then some (.int .i64 3)else none
 |_=>none
theorem n3_con:Con env 90 (dy n3Y):=lp qk rfl wK rfl (fun l d g i e=>d g i e) λc v a=>by unfold n3Y at a;split at a;rename_i x;cases b:decide (100<=x)&&decide (x<301);rw[b]at a;cases a;rw[b]at a;simp only[D',osI]at a;subst a;simp only[f',GK]at b;obtain⟨m,rfl⟩:=H4 (show 0<=x by omega);refine⟨rfl,rfl,?_⟩;have h:=yR (n:=m) (by omega) (by omega);unfold okN3 at h;split at h;rename_i k j f;have:k=3:=odt h;subst this;exact⟨_,j,f⟩;cases h;cases a
def n3P:Lh->Ll
 | [.int .u64 x]=>some (100<=x/\x<301)
 |_=>none
def n3X:Lh->Lj
 | [.int .u64 x]=>some (.int .i64 3)
 |_=>none
theorem AN:∀ args A p v A',bD n3P n3X args A=some (p,v,A')->PH p->CallAt env 90 args A v A':=
 i4 λargs v b d A c w a R e f=>by refine n3_con args A v A ?_ c w a R e f;unfold n3X at b;split at b;rename_i x;obtain⟨h,g⟩:100<=x/\x<301:=d;cases b;simp[dy,n3Y,h,g];cases b
def tB(t:ByteArray)(i:Nat):UInt8:=match nth t.data.toList i with|some b=>b|none=>0
def tb99:ByteArray:=⟨⟨[48,48,48,49,48,50,48,51,48,52,48,53,48,54,48,55,48,56,48,57,49,48,49,49,49,50,49,51,49,52,49,53,49,54,49,55,49,56,49,57,50,48,50,49,50,50,50,51,50,52,50,53,50,54,50,55,50,56,50,57,51,48,51,49,51,50,51,51,51,52,51,53,51,54,51,55,51,56,51,57,52,48,52,49,52,50,52,51,52,52,52,53,52,54,52,55,52,56,52,57,53,48,53,49,53,50,53,51,53,52,53,53,53,54,53,55,53,56,53,57,54,48,54,49,54,50,54,51,54,52,54,53,54,54,54,55,54,56,54,57,55,48,55,49,55,50,55,51,55,52,55,53,55,54,55,55,55,56,55,57,56,48,56,49,56,50,56,51,56,52,56,53,56,54,56,55,56,56,56,57,57,48,57,49,57,50,57,51,57,52,57,53,57,54,57,55,57,56,57,57]⟩⟩
def tD(n:Nat):LB:=if n<10 then [UInt8.ofNat (48+n)]else if n<100 then [UInt8.ofNat (48+n/10),UInt8.ofNat (48+n%10)]else [UInt8.ofNat (48+n/100),tB tb99 (n%100*2),tB tb99 (n%100*2+1)]
def okSm(n:Nat):Bool:=match iw env1 (evN env1 100000) 89 [.int .i64 n] ⟨.leaf,0⟩with
 |some (.string s,_)=>eqL s.data.toList (tD n)
 |_=>false
def xP:Nat->Nat->Bool
 |_,0=>true
 |m,k+1=>okSm m&&xP (m+1) k
theorem kw:∀ {k m n:Nat},xP m k=true->m<=n->n<m+k->okSm n=true
 |0,m,n,_,h1,h2=>by omega
 |k+1,m,n,h,h1,h2=>by simp only[xP,f']at h;by_cases e:n=m;subst e;exact h.1;exact kw h.2 (by omega) (by omega)
theorem sma:xP 0 50=true:=by kernel_rfl
theorem smb:xP 50 50=true:=by kernel_rfl
theorem yQ{n:Nat}(b:n<100):okSm n=true:=by by_cases a:n<50;exact kw sma (by omega) (by omega);exact kw smb (by omega) (by omega)
def smY:Lh->Lj
 | [.int .i64 x]=>bif decide (0<=x)&&decide (x<100)then some (.string (aw (tD x.toNat)))else none
 |_=>none
theorem Az:Con env 89 (dy smY):=lp qk rfl wK rfl (fun k d g i e=>d g i e) λc v a=>by
 unfold smY at a;split at a;rename_i x;cases b:decide (0<=x)&&decide (x<100);rw[b]at a;cases a;rw[b]at a;simp only[D',osI]at a;subst a;simp only[f',GK]at b;obtain⟨m,rfl⟩:=H4 b.1;refine⟨rfl,rfl,?_⟩;have h:=yQ (n:=m) (by omega);unfold okSm at h;split at h;rename_i s j f;rw[ez]at h;have:s=aw (tD (Int.toNat ((m:Nat):Int))):=by rcases s with⟨⟨l⟩⟩;exact Hu (λl=>ByteArray.mk (Array.mk l)) h
 rw[<-this];exact⟨_,j,f⟩;cases h;cases a
def d8(x:Int):UInt8:=UInt8.ofNat (48+x.toNat)
def s1P:Lh->Ll
 | [.int .i64 x]=>some (0<=x/\x<10)
 |_=>none
def s1X:Lh->Lj
 | [.int .i64 x]=>some (.string (aw [d8 x]))
 |_=>none
def s2P:Lh->Ll
 | [.int .i64 x]=>some (10<=x/\x<100)
 |_=>none
def s2X:Lh->Lj
 | [.int .i64 x]=>some (.string (aw [d8 (x/10),d8 (x%10)]))
 |_=>none
theorem s1_tab:∀ args A p v A',bD s1P s1X args A=some (p,v,A')->PH p->CallAt env 89 args A v A':=
 i4 λargs v b f A e w a R g h=>by
  refine Az args A v A ?_ e w a R g h;unfold s1X at b;split at b;rename_i x;obtain⟨d,j⟩:0<=x/\x<10:=f;cases b;obtain⟨m,rfl⟩:=H4 d;have i:((m:Nat):Int)<100:=by omega
  have c:tD (Int.toNat ((m:Nat):Int))=[d8 (m:Int)]:=by unfold tD d8;rw[Gs,E' (by omega)]
  simp[dy,smY,d,i,c];exact Hu aw c;cases b
theorem s2_tab:∀ args A p v A',bD s2P s2X args A=some (p,v,A')->PH p->CallAt env 89 args A v A':=
 i4 λargs v b e A d w a R f g=>by
  refine Az args A v A ?_ d w a R f g;unfold s2X at b;split at b;rename_i x;obtain⟨l,h⟩:10<=x/\x<100:=e;cases b;obtain⟨m,rfl⟩:=H4 (show 0<=x by omega);have i:(0:Int)<=((m:Nat):Int):=by omega
  have c:tD (Int.toNat ((m:Nat):Int))=[d8 ((m:Int)/10),d8 ((m:Int)%10)]:=by
   unfold tD d8;rw[Gs,C' (by omega),E' (by omega)];have k:Int.toNat ((m:Int)/10)=m/10:=by omega
   have j:Int.toNat ((m:Int)%10)=m%10:=by omega
   rw[k,j]
  simp[dy,smY,i,h,c];exact Hu aw c;cases b
def elIk:El:={El.of (λ_ _ els i=>some (.int .u8 (aa els i)))with app:=true,gm:=λ_=>true}
def XA1:SX:=⟨env,[(90,bD n3P n3X),(89,bD s1P s1X)],elIk,λ_=>.unroll 0⟩
def XA2:SX:=⟨env,[(90,bD n3P n3X),(89,bD s2P s2X)],elIk,λ_=>.unroll 0⟩
def jAu1(K:KV)(l:LB)(x:Int):Prop:=bh XA1 3 f84 [groS 0 l.length,.int .u64 x,.int .i64 10] (hU l) K
def jAu2(K:KV)(l:LB)(x:Int):Prop:=bh XA2 3 f84 [groS 0 l.length,.int .u64 x,.int .i64 10] (hU l) K
set_option maxHeartbeats 400000
abbrev R_:=λa=>IntKind.wrap IntKind.u32 a
abbrev J1:=λa b=>AH.mk (Ns (Ns Lf (n_ [w_ (IntKind.wrap .u8 (R_ (48+IntKind.wrap IntKind.u32 (Int.tdiv (R_ a) 100)))),w_ (az tb99 (R_ (Int.tmod (R_ a) 100*2))),w_ (az tb99 (R_ (IntKind.wrap IntKind.u32 (Int.tmod (R_ a) 100*2)+1))),w_ 0,w_ 0,w_ 0,w_ 0,w_ 0,w_ 0,w_ 0,w_ 0,w_ 0,w_ 0,w_ 0,w_ 0,w_ 0,w_ 0,w_ 0,w_ 0,w_ 0,w_ 0,w_ 0,w_ 0,w_ 0] 148) (t_ (Sg (AObj.gro (u8v b) [w_ (IntKind.wrap .u8 (R_ (48+IntKind.wrap IntKind.u32 (Int.tdiv (R_ a) 100)))),w_ (az tb99 (R_ (Int.tmod (R_ a) 100*2))),w_ (az tb99 (R_ (IntKind.wrap IntKind.u32 (Int.tmod (R_ a) 100*2)+1)))] 5)))) AObj.dead Lf) 18
theorem Nw(K:KV)(l:LB)(x:Int):jAu1 K l x=(Sp (decide (x<100)) ((0<=IntKind.wrap .i64 x/\IntKind.wrap .i64 x<10)/\(List.all [w_ (B_ (UInt8.toNat (d8 (x_ x))))] cellv=true/\List.length l+0=List.length (u8v l)/\List.length l+(1:Nat)<=(70368744177664:Nat)/\(List.length l+1)*(1:Nat)<=(140737488355328:Nat))/\K (g_ 1 0 (List.length l+1)) (AH.mk (Ns (Sg (AObj.gro (u8v l) [w_ (B_ (UInt8.toNat (d8 (x_ x))))] 5)) AObj.dead Lf) 2)) ((100<=x/\x<301)/\NZ 100/\NZ 100/\(0<=IntKind.wrap IntKind.u32 (IntKind.wrap IntKind.u32 (Int.tmod (R_ x) 100*2)+1)/\IntKind.wrap IntKind.u32 (IntKind.wrap IntKind.u32 (Int.tmod (R_ x) 100*2)+1)<200)/\(0<=IntKind.wrap IntKind.u32 (Int.tmod (R_ x) 100*2)/\IntKind.wrap IntKind.u32 (Int.tmod (R_ x) 100*2)<200)/\(List.all [w_ (IntKind.wrap .u8 (R_ (48+IntKind.wrap IntKind.u32 (Int.tdiv (R_ x) 100)))),w_ (az tb99 (R_ (Int.tmod (R_ x) 100*2))),w_ (az tb99 (R_ (IntKind.wrap IntKind.u32 (Int.tmod (R_ x) 100*2)+1)))] cellv=true/\List.length l+0=List.length (u8v l)/\List.length l+(3:Nat)<=(70368744177664:Nat)/\(List.length l+3)*(1:Nat)<=(140737488355328:Nat))/\K (g_ 17 0 (List.length l+3)) (J1 x l))):=by kernel_rfl
theorem D8:type_of%(by have h:=@Nw;revert h;delta b_ g_ n_ t_ w_ x_ B_ R_ J1;exact id):=@Nw
theorem Nx(K:KV)(l:LB)(x:Int):jAu2 K l x=(Sp (decide (x<100)) ((10<=IntKind.wrap .i64 x/\IntKind.wrap .i64 x<100)/\(List.all [w_ (B_ (UInt8.toNat (d8 (IntKind.wrap .i64 x/10)))),w_ (B_ (UInt8.toNat (d8 (IntKind.wrap .i64 x%10))))] cellv=true/\List.length l+0=List.length (u8v l)/\List.length l+(2:Nat)<=(70368744177664:Nat)/\(List.length l+2)*(1:Nat)<=(140737488355328:Nat))/\K (g_ 1 0 (List.length l+2)) (AH.mk (Ns (Sg (AObj.gro (u8v l) [w_ (B_ (UInt8.toNat (d8 (IntKind.wrap .i64 x/10)))),w_ (B_ (UInt8.toNat (d8 (IntKind.wrap .i64 x%10))))] 5)) AObj.dead Lf) 2)) ((100<=x/\x<301)/\NZ 100/\NZ 100/\(0<=IntKind.wrap IntKind.u32 (IntKind.wrap IntKind.u32 (Int.tmod (R_ x) 100*2)+1)/\IntKind.wrap IntKind.u32 (IntKind.wrap IntKind.u32 (Int.tmod (R_ x) 100*2)+1)<200)/\(0<=IntKind.wrap IntKind.u32 (Int.tmod (R_ x) 100*2)/\IntKind.wrap IntKind.u32 (Int.tmod (R_ x) 100*2)<200)/\(List.all [w_ (IntKind.wrap .u8 (R_ (48+IntKind.wrap IntKind.u32 (Int.tdiv (R_ x) 100)))),w_ (az tb99 (R_ (Int.tmod (R_ x) 100*2))),w_ (az tb99 (R_ (IntKind.wrap IntKind.u32 (Int.tmod (R_ x) 100*2)+1)))] cellv=true/\List.length l+0=List.length (u8v l)/\List.length l+(3:Nat)<=(70368744177664:Nat)/\(List.length l+3)*(1:Nat)<=(140737488355328:Nat))/\K (g_ 17 0 (List.length l+3)) (J1 x l))):=by kernel_rfl
theorem D7:type_of%(by have h:=@Nx;revert h;delta b_ g_ n_ t_ w_ B_ R_ J1;exact id):=@Nx
theorem sL(t:ByteArray)(k:Nat):az t (k:Int)=((tB t k).toNat:Int):=by unfold az tB;rw[Gs];cases nth t.data.toList k<;>rfl
theorem nI{x:Int}(b:0<=x)(a:x<4294967296):IntKind.wrap .u32 x=x:=by unfold IntKind.wrap;exact Int.emod_eq_of_lt b a
theorem u8_in{x:Int}(b:0<=x)(a:x<256):IntKind.wrap .u8 x=x:=by unfold IntKind.wrap;exact Int.emod_eq_of_lt b a
theorem Fo(Q:Value->AH->Prop)(l:LB)(t:Lh)(n:Nat):endF env (hU l) [] [] [] Q (groS 1 n) ⟨(.node (.node .leaf (some (.gro (u8v l) t 5)) .leaf) (some (.dead)) .leaf),2⟩=(HF (.agg ⟨glue (u8v l) t⟩)/\Q (groS 1 n) ⟨(.node (.node .leaf (some (.gro (glue (u8v l) t) [] 5)) .leaf) (some (.dead)) .leaf),2⟩):=by kernel_rfl
theorem Fm(Q:Value->AH->Prop)(l:LB)(z t:Lh)(n:Nat):endF env (hU l) [] [] [] Q (groS 17 n) ⟨(.node (.node .leaf (some (.cells z 148)) (.node (.node (.node .leaf (some (.gro (u8v l) t 5)) .leaf) none .leaf) none .leaf)) (some (.dead)) .leaf),18⟩=(HF (.agg ⟨glue (u8v l) t⟩)/\Q (groS 1 n) ⟨(.node (.node .leaf (some (.gro (glue (u8v l) t) [] 5)) .leaf) (some (.dead)) .leaf),2⟩):=by kernel_rfl
theorem XA1_ok:XA1.Ok:=⟨am,aE,ap,.cons AN (.cons s1_tab .nil)⟩
theorem XA2_ok:XA2.Ok:=⟨am,aE,ap,.cons AN (.cons s2_tab .nil)⟩
theorem F7(l:LB)(x:Nat)(w:x<301)(y:l.length<=10000000000):WalkF env f84 [groS 0 l.length,.int .u64 (x:Int),.int .i64 10] (hU l) (groS 1 (l++tD x).length) (hUE (l++tD x)):=by
 have b:(u8v l).length=l.length:=Gu _;have c:IntKind.wrap .i64 (x:Int)=x:=aA (by omega) (by omega);have a:∀ r:LB,tD x=r->endF env (hU l) [] [] [] (λv1 i=>v1=groS 1 (l++tD x).length/\i=hUE (l++tD x)) (groS 1 (l.length+r.length)) ⟨(.node (.node .leaf (some (.gro (u8v l) (u8v r) 5)) .leaf) (some (.dead)) .leaf),2⟩:=λr g=>by refine(Fo _ l (u8v r) _).mpr ?_;rw[b7,<-eL,g];exact⟨aU _,by rw[Gr],rfl⟩
 have f:∀ (r:LB) (z:Lh),tD x=r->endF env (hU l) [] [] [] (λv1 i=>v1=groS 1 (l++tD x).length/\i=hUE (l++tD x)) (groS 17 (l.length+r.length)) ⟨(.node (.node .leaf (some (.cells z 148)) (.node (.node (.node .leaf (some (.gro (u8v l) (u8v r) 5)) .leaf) none .leaf) none .leaf)) (some (.dead)) .leaf),18⟩:=λr z g=>by refine(Fm _ l z (u8v r) _).mpr ?_;rw[b7,<-eL,g];exact⟨aU _,by rw[Gr],rfl⟩
 by_cases h:x<10;have hd:tD x=[d8 (x:Int)]:=by unfold tD d8;rw[Gs,E' h]
 refine aJ XA1_ok (d:=3) (ns:=[]) (zs:=[]) (ws:=[]) ((D8 _ l (x:Int)).mpr (Sp.intro (λq=>?_) (λq=>absurd (odf q) (by omega))));rw[c];have e:=a _ hd;generalize tD x=T at*;exact⟨⟨by omega,by omega⟩,⟨rfl,by rw[b,GP],by omega,by omega⟩,e⟩;refine aJ XA2_ok (d:=3) (ns:=[]) (zs:=[]) (ws:=[]) ((D7 _ l (x:Int)).mpr (Sp.intro (λq=>?_) (λq=>?_)));have q:=odt q;have hd:tD x=[d8 ((x:Int)/10),d8 ((x:Int)%10)]:=by
  unfold tD d8;rw[C' h,E' (by omega)];have v:Int.toNat ((x:Int)/10)=x/10:=by omega
  have u:Int.toNat ((x:Int)%10)=x%10:=by omega
  rw[v,u]
 rw[c];have e:=a _ hd;generalize tD x=T at*;exact⟨⟨by omega,by omega⟩,⟨rfl,by rw[b,GP],by omega,by omega⟩,e⟩;have q:=odf q;have t:IntKind.wrap .u32 (x:Int)=x:=nI (by omega) (by omega);have s:Int.tmod (x:Int) 100=((x%100:Nat):Int):=by rw[Int.tmod_eq_emod_of_nonneg (by omega)];omega
 have p:IntKind.wrap .u32 (((x%100:Nat):Int)*2)=((x%100*2:Nat):Int):=by rw[nI (by omega) (by omega)];omega
 have o:IntKind.wrap .u32 (((x%100*2:Nat):Int)+1)=((x%100*2+1:Nat):Int):=by rw[nI (by omega) (by omega)];omega
 have n:Int.tdiv (x:Int) 100=((x/100:Nat):Int):=by rw[Int.tdiv_eq_ediv_of_nonneg (by omega)];omega
 have m:IntKind.wrap .u32 ((x/100:Nat):Int)=((x/100:Nat):Int):=nI (by omega) (by omega);have k:IntKind.wrap .u32 (48+((x/100:Nat):Int))=((48+x/100:Nat):Int):=by rw[nI (by omega) (by omega)];omega
 have j:IntKind.wrap .u8 ((48+x/100:Nat):Int)=((UInt8.ofNat (48+x/100)).toNat:Int):=by
  rw[u8_in (by omega) (by omega)];have:(UInt8.ofNat (48+x/100)).toNat=48+x/100:=by simp;omega
  rw[this]
 have hd:tD x=[UInt8.ofNat (48+x/100),tB tb99 (x%100*2),tB tb99 (x%100*2+1)]:=by unfold tD;rw[C' h,C' (by omega)]
 rw[t,s,p,o,n,m,k,j,sL,sL];have e:=λz=>f _ z hd;generalize tD x=T at*;generalize UInt8.ofNat (48+x/100)=b0 at*;generalize tB tb99 (x%100*2)=b1 at*;generalize tB tb99 (x%100*2+1)=b2 at*;exact⟨⟨by omega,by omega⟩,(by unfold NZ;decide),(by unfold NZ;decide),⟨by omega,by omega⟩,⟨by omega,by omega⟩,⟨rfl,by rw[b,GP],by omega,by omega⟩,e _⟩
def auL(l:Lh)(x:Int):LB:=l.map dU8++tD x.toNat
def spAu:Lh->List AObj->Option (Ll×Value×List AObj)
 | [.slice (some ⟨B,o,none⟩) n k,.int .u64 x,.int .i64 b],[.gro l t e]=>
   bif ((Nat.beq B 0&&Nat.beq o 0)&&(Nat.beq k (unk+3+1)&&Nat.beq e 5))&&decide (b=10)then
    some (some (t=[]/\l=u8v (l.map dU8)/\n=l.length/\(0<=x/\x<301)/\l.length<=10000000000),groS 1 (auL l x).length,[.dead,.gro (u8v (auL l x)) [] e])else none
 |_,_=>none
theorem au_tab:∀ args A p v A',frmR noAr spAu args A=some (p,v,A')->PH p->CallAt env 84 args A v A':=be am (fn:=f84) rfl λargs c p v a h f=>by unfold spAu at h;split at h;rename_i B o n k x b l t e;obtain⟨d,h⟩:=bw h;simp only[Gx]at h;obtain⟨rfl,rfl,rfl⟩:=h;simp only[f',GG,GK]at d;obtain⟨⟨⟨rfl,rfl⟩,rfl,rfl⟩,rfl⟩:=d;obtain⟨rfl,i,rfl,⟨q,m⟩,j⟩:t=[]/\l=u8v (l.map dU8)/\n=l.length/\(0<=x/\x<301)/\l.length<=10000000000:=f;have g:(l.map dU8).length=l.length:=Gu _;unfold auL;generalize l.map dU8=L at*;subst i;obtain⟨y,rfl⟩:∃ y:Nat,x=y:=⟨x.toNat,by omega⟩;rw[Gs];have:=F7 L y (by omega) (by omega);rw[<-Bg,<-wa]at this;rw[<-g];exact this;cases h
def XIk:SX:=⟨env,[(84,frmR noAr spAu)],elIk,λ_=>.unroll 0⟩
def hIk(l:LB):AH:=⟨(Nd (Nd Lf (some (.gro (u8v l) [] 5)) Lf) (some (.cells [groS 1 l.length] 45)) Lf),2⟩
def jIk(K:KV)(l:LB)(n:Int):Prop:=bh XIk 6 f32 [.pointer (some ⟨0,0,none⟩),.int .i64 n] (hIk l) K
def jIb(K:KV)(l:LB)(b:Bool):Prop:=bh XIk 6 f56 [.pointer (some ⟨0,0,none⟩),.bool b] (hIk l) K
abbrev T':=λa=>IntKind.wrap .u64 (0-IntKind.wrap .u64 a)
theorem Ny(K:KV)(l:LB)(n:Int):jIk K l n=(Sp (decide (n<0)) ((List.all [w_ 45] cellv=true/\List.length l+0=List.length (u8v l)/\List.length l+(1:Nat)<=(70368744177664:Nat)/\(List.length l+1)*(1:Nat)<=(140737488355328:Nat))/\HFs [f_ (u8v l++[w_ 45]),f_ (u8v (auL (u8v l++[w_ 45]) (T' n)))] (PH (Prod.fst (some (([]:Lh)=[]/\u8v l++[w_ 45]=u8v (List.map dU8 (u8v l++[w_ 45]))/\List.length l+1=List.length (u8v l++[w_ 45])/\(0<=IntKind.wrap .u64 (0-IntKind.wrap .u64 n)/\IntKind.wrap .u64 (0-IntKind.wrap .u64 n)<301)/\List.length (u8v l++[w_ 45])<=10000000000),g_ 1 0 (i_ (auL (u8v l++[w_ 45]) (T' n))),[AObj.dead,k_ (u8v (auL (u8v l++[w_ 45]) (T' n))) 5])))/\(List.all [w_ 32] cellv=true/\List.length (auL (u8v l++[w_ 45]) (T' n))+0=List.length (u8v (auL (u8v l++[w_ 45]) (T' n)))/\List.length (auL (u8v l++[w_ 45]) (T' n))+(1:Nat)<=(70368744177664:Nat)/\(List.length (auL (u8v l++[w_ 45]) (T' n))+1)*(1:Nat)<=(140737488355328:Nat))/\K J6 (Q_ (Ns (Sg AObj.dead) AObj.dead (Ks [w_ 32] 5)) (n_ [g_ 6 0 (List.length (auL (u8v l++[w_ 45]) (T' n))+1)] 45) (Ns (Sg AObj.dead) (n_ [w_ 45] 5) (Sg (AObj.gro (u8v (auL (u8v l++[w_ 45]) (T' n))) [w_ 32] 5))) 7)) (HFs [f_ (u8v l),f_ (u8v (auL (u8v l) (Kt n)))] (PH (Prod.fst (some (([]:Lh)=[]/\u8v l=u8v (G_ l)/\List.length l=List.length (u8v l)/\(0<=IntKind.wrap .u64 n/\IntKind.wrap .u64 n<301)/\List.length (u8v l)<=10000000000),g_ 1 0 (i_ (auL (u8v l) (Kt n))),[AObj.dead,k_ (u8v (auL (u8v l) (Kt n))) 5])))/\(List.all [w_ 32] cellv=true/\List.length (auL (u8v l) (Kt n))+0=List.length (u8v (auL (u8v l) (Kt n)))/\List.length (auL (u8v l) (Kt n))+(1:Nat)<=(70368744177664:Nat)/\(List.length (auL (u8v l) (Kt n))+1)*(1:Nat)<=(140737488355328:Nat))/\K J6 (Q_ (Ns (Ks [w_ 32] 5) AObj.dead Lf) (n_ [g_ 4 0 (List.length (auL (u8v l) (Kt n))+1)] 45) (Ns (Sg (AObj.gro (u8v (auL (u8v l) (Kt n))) [w_ 32] 5)) AObj.dead Lf) 5))):=by kernel_rfl
theorem jIk_nf:type_of%(by have h:=@Ny;revert h;delta b_ f_ g_ i_ k_ n_ w_ G_ Q_ T' J6 Ks Kt;exact id):=@Ny
theorem Nz(K:KV)(l:LB)(b:Bool):jIb K l b=(Sp b ((List.all [w_ 116,w_ 114,w_ 117,w_ 101] cellv=true/\List.length l+0=List.length (u8v l)/\List.length l+(4:Nat)<=(70368744177664:Nat)/\(List.length l+4)*(1:Nat)<=(140737488355328:Nat))/\K J6 (Q_ (Sg AObj.dead) (n_ [g_ 2 0 (List.length l+4)] 45) (Sg (AObj.gro (u8v l) [w_ 116,w_ 114,w_ 117,w_ 101] 5)) 3)) ((List.all [w_ 102,w_ 97,w_ 108,w_ 115,w_ 101] cellv=true/\List.length l+0=List.length (u8v l)/\List.length l+(5:Nat)<=(70368744177664:Nat)/\(List.length l+5)*(1:Nat)<=(140737488355328:Nat))/\K J6 (Q_ (Sg AObj.dead) (n_ [g_ 2 0 (List.length l+5)] 45) (Sg (AObj.gro (u8v l) [w_ 102,w_ 97,w_ 108,w_ 115,w_ 101] 5)) 3))):=by kernel_rfl
theorem jIb_nf:type_of%(by have h:=@Nz;revert h;delta b_ g_ n_ w_ Q_ J6;exact id):=@Nz
def ikT(l:LB)(n:Nat):LB:=(l++tD n)++[32]
def boT(b:Bool):LB:=match b with|true=>[116,114,117,101]|false=>[102,97,108,115,101]
def hIkE(l:LB):AH:=⟨(Nd (Nd Lf (some (.dead)) Lf) (some (.cells [groS 2 l.length] 45)) (Nd Lf (some (.gro (u8v l) [] 5)) Lf)),3⟩
theorem end_ik(Q:Value->AH->Prop)(l:LB)(els c t:Lh)(n:Nat):endF env (hIk l) [] [] [] Q (.tuple ⟨[]⟩) ⟨(.node (.node (.node .leaf (some (.cells c 5)) .leaf) (some (.dead)) .leaf) (some (.cells [groS 4 n] 45)) (.node (.node .leaf (some (.gro els t 5)) .leaf) (some (.dead)) .leaf)),5⟩=(HF (.agg ⟨glue els t⟩)/\Q (.tuple ⟨[]⟩) ⟨(.node (.node .leaf (some (.dead)) .leaf) (some (.cells [groS 2 n] 45)) (.node .leaf (some (.gro (glue els t) [] 5)) .leaf)),3⟩):=by kernel_rfl
theorem end_ib(Q:Value->AH->Prop)(l:LB)(els t:Lh)(n:Nat):endF env (hIk l) [] [] [] Q (.tuple ⟨[]⟩) ⟨(.node (.node .leaf (some (.dead)) .leaf) (some (.cells [groS 2 n] 45)) (.node .leaf (some (.gro els t 5)) .leaf)),3⟩=(HF (.agg ⟨glue els t⟩)/\Q (.tuple ⟨[]⟩) ⟨(.node (.node .leaf (some (.dead)) .leaf) (some (.cells [groS 2 n] 45)) (.node .leaf (some (.gro (glue els t) [] 5)) .leaf)),3⟩):=by kernel_rfl
theorem BC:XIk.Ok:=⟨am,aE,ap,.cons au_tab .nil⟩
theorem auL_u(l:LB)(x:Nat):auL (u8v l) (x:Int)=l++tD x:=by unfold auL;rw[jo,Gs]
theorem Ar(n:Nat):(tD n).length<=3:=by unfold tD;split<;>(try split)<;>simp
theorem Es(l:LB)(n:Nat)(g:n<301)(h:l.length<=1000000000):WalkF env f32 [.pointer (some ⟨0,0,none⟩),.int .i64 (n:Int)] (hIk l) (.tuple ⟨[]⟩) (hIkE (ikT l n)):=by
 have b:(u8v l).length=l.length:=Gu _;have w:IntKind.wrap .u64 (n:Int)=n:=nG (by omega) (by omega);have j:=Ar n;have i:(l++tD n).length=l.length+(tD n).length:=Gr;have a:∀ (T:LB) (c:Lh),endF env (hIk l) [] [] [] (λv1 f=>v1=.tuple ⟨[]⟩/\f=hIkE (T++[32])) (.tuple ⟨[]⟩) ⟨(.node (.node (.node .leaf (some (.cells c 5)) .leaf) (some (.dead)) .leaf) (some (.cells [groS 4 (T.length+1)] 45)) (.node (.node .leaf (some (.gro (u8v T) (u8v [32]) 5)) .leaf) (some (.dead)) .leaf)),5⟩:=λT c=>by refine(end_ik _ l (u8v T) c (u8v [32]) _).mpr ?_;rw[b7,<-eL];refine⟨aU _,rfl,?_⟩;unfold hIkE;rw[Gr];rfl
 refine aJ BC (d:=6) (ns:=[]) (zs:=[]) (ws:=[]) ((jIk_nf _ l (n:Int)).mpr (Sp.intro (λq=>absurd (odt q) (by omega)) (λq=>?_)));rw[w,auL_u];unfold ikT;have a:=a (l++tD n);generalize l++tD n=T at*;have e:(u8v T).length=T.length:=Gu _;refine⟨⟨aU _,aU _,⟨rfl,by rw[jo],by rw[b],⟨by omega,by omega⟩,by omega⟩⟩,⟨rfl,by rw[e,GP],by omega,by omega⟩,a _⟩
theorem Ev(l:LB)(b:Bool)(g:l.length<=1000000000):WalkF env f56 [.pointer (some ⟨0,0,none⟩),.bool b] (hIk l) (.tuple ⟨[]⟩) (hIkE (l++boT b)):=by
 have a:(u8v l).length=l.length:=Gu _;have c:∀ r:LB,endF env (hIk l) [] [] [] (λv1 f=>v1=.tuple ⟨[]⟩/\f=hIkE (l++r)) (.tuple ⟨[]⟩) ⟨(.node (.node .leaf (some (.dead)) .leaf) (some (.cells [groS 2 (l.length+r.length)] 45)) (.node .leaf (some (.gro (u8v l) (u8v r) 5)) .leaf)),3⟩:=λr=>by refine(end_ib _ l (u8v l) (u8v r) _).mpr ?_;rw[b7,<-eL];refine⟨aU _,rfl,?_⟩;unfold hIkE;rw[Gr]
 refine aJ BC (d:=6) (ns:=[]) (zs:=[]) (ws:=[]) ((jIb_nf _ l b).mpr (Sp.intro (λq=>?_) (λq=>?_)));subst q;have e:=c [116,114,117,101];exact⟨⟨rfl,by rw[a,GP],by omega,by omega⟩,e⟩;subst q;have e:=c [102,97,108,115,101];exact⟨⟨rfl,by rw[a,GP],by omega,by omega⟩,e⟩
def spIk:Lh->List AObj->Option (Ll×Value×List AObj)
 | [.pointer (some ⟨B,o,none⟩),.int .i64 n],[.cells [.slice (some ⟨B1,o1,none⟩) n1 k1] e0,.gro l t e]=>
   bif ((Nat.beq B 0&&Nat.beq o 0)&&(Nat.beq B1 1&&Nat.beq o1 0))&&(Nat.beq k1 (unk+3+1)&&(Nat.beq e0 45&&Nat.beq e 5))then
    some (some ((t=[]/\l=u8v (l.map dU8)/\n1=l.length)/\(0<=n/\n<301)/\l.length<=1000000000),.tuple ⟨[]⟩,[.cells [groS 2 (ikT (l.map dU8) n.toNat).length] e0,.dead,.gro (u8v (ikT (l.map dU8) n.toNat)) [] e])else none
 |_,_=>none
def spIb:Lh->List AObj->Option (Ll×Value×List AObj)
 | [.pointer (some ⟨B,o,none⟩),.bool b],[.cells [.slice (some ⟨B1,o1,none⟩) n1 k1] e0,.gro l t e]=>
   bif ((Nat.beq B 0&&Nat.beq o 0)&&(Nat.beq B1 1&&Nat.beq o1 0))&&(Nat.beq k1 (unk+3+1)&&(Nat.beq e0 45&&Nat.beq e 5))then
    some (some ((t=[]/\l=u8v (l.map dU8)/\n1=l.length)/\l.length<=1000000000),.tuple ⟨[]⟩,[.cells [groS 2 ((l.map dU8)++boT b).length] e0,.dead,.gro (u8v ((l.map dU8)++boT b)) [] e])else none
 |_,_=>none
theorem j5(l:LB):aW [.cells [groS 1 l.length] 45,.gro (u8v l) [] 5]=hIk l:=by kernel_rfl
theorem gB(l:LB):aW [.cells [groS 2 l.length] 45,.dead,.gro (u8v l) [] 5]=hIkE l:=by kernel_rfl
theorem rS:∀ args A p v A',frmR noAr spIk args A=some (p,v,A')->PH p->CallAt env 32 args A v A':=be am (fn:=f32) rfl λargs b p v a h f=>by unfold spIk at h;split at h;rename_i B o n u j d k s l t e;obtain⟨c,h⟩:=bw h;simp only[Gx]at h;obtain⟨rfl,rfl,rfl⟩:=h;simp only[f',GG]at c;obtain⟨⟨⟨rfl,rfl⟩,rfl,rfl⟩,rfl,rfl,rfl⟩:=c;obtain⟨⟨rfl,i,rfl⟩,⟨r,q⟩,m⟩:(t=[]/\l=u8v (l.map dU8)/\d=l.length)/\(0<=n/\n<301)/\l.length<=1000000000:=f;have g:(l.map dU8).length=l.length:=Gu _;generalize l.map dU8=L at*;subst i;obtain⟨y,rfl⟩:∃ y:Nat,n=y:=⟨n.toNat,by omega⟩;rw[Gs];have:=Es L y (by omega) (by omega);rw[<-j5,<-gB]at this;rw[<-g];exact this;cases h
theorem ib_tab:∀ args A p v A',frmR noAr spIb args A=some (p,v,A')->PH p->CallAt env 56 args A v A':=be am (fn:=f56) rfl λargs c p v a h g=>by unfold spIb at h;split at h;rename_i B o b r k f m q l t e;obtain⟨d,h⟩:=bw h;simp only[Gx]at h;obtain⟨rfl,rfl,rfl⟩:=h;simp only[f',GG]at d;obtain⟨⟨⟨rfl,rfl⟩,rfl,rfl⟩,rfl,rfl,rfl⟩:=d;obtain⟨⟨rfl,j,rfl⟩,n⟩:(t=[]/\l=u8v (l.map dU8)/\f=l.length)/\l.length<=1000000000:=g;have i:(l.map dU8).length=l.length:=Gu _;generalize l.map dU8=L at*;subst j;have:=Ev L b (by omega);rw[<-j5,<-gB]at this;rw[<-i];exact this;cases h
def elBs:El:={elT [] [18]with app:=true,gm:=λ_=>true}
def XBs:SX:=⟨env,[(32,frmR noAr spIk),(56,frmR noAr spIb)],elBs,λ_=>.autoN [] [] [] [0,1,4]⟩
def elIs:El:={elT [] []with app:=true,gm:=λ_=>true}
def XIs:SX:=⟨env,[(32,frmR noAr spIk)],elIs,λ_=>.autoN [] [] [] [0,1,4]⟩
def frBs(v:Value)(i:Nat):T Value:=(Nd (Nd Lf (some (v)) Lf) (some (.pointer (some ⟨0,0,none⟩))) (Nd (Nd Lf (some (.int .i64 i)) Lf) none Lf))
noncomputable def nBs:Nat:=Func.ntmps f33
noncomputable def bBs:Code:=au f33
noncomputable def nIs:Nat:=Func.ntmps f34
noncomputable def bIs:Code:=au f34
def kFinBs(K:KV):KX:=finK env (f33.results).toList K
def kFinIs(K:KV):KX:=finK env (f34.results).toList K
def jBs(K:KV)(l:LB)(bs:Li):Prop:=bh XBs 2 f33 [.pointer (some ⟨0,0,none⟩),dat 1 (blV bs)] (hIk l) K
def jBsL(K:KV)(again:KF)(l0 l:LB)(bs:Li)(i:Nat):Prop:=aI XBs 2 nBs (hIk l0) bBs [1,1,0] (kFinBs K) [] [] [] [0,1,4] again (frBs (dat 1 (blV bs)) i) (hIkE l)
def jIs(K:KV)(l:LB)(r:Le):Prop:=bh XIs 2 f34 [.pointer (some ⟨0,0,none⟩),dat 1 (inV r)] (hIk l) K
def jIsL(K:KV)(again:KF)(l0 l:LB)(r:Le)(i:Nat):Prop:=aI XIs 2 nIs (hIk l0) bIs [1,1,0] (kFinIs K) [] [] [] [0,1,4] again (frBs (dat 1 (inV r)) i) (hIkE l)
abbrev JX:=λa b=>ikT (G_ a) (z_ b)
abbrev Ko:=λa=>Q_ (Sg AObj.dead) (n_ [g_ 2 0 (i_ a)] 45) (Sg (k_ (u8v a) 5)) 3
theorem NA(K:KV)(l:LB)(bs:Li):jBs K l bs=(HFs [f_ (u8v l),f_ (u8v (JX l (j_ (blV bs))))] (PH (Prod.fst (some ((([]:Lh)=[]/\u8v l=u8v (G_ l)/\List.length l=List.length (u8v l))/\(0<=j_ (blV bs)/\j_ (blV bs)<301)/\List.length (u8v l)<=1000000000),J6,[n_ [g_ 2 0 (i_ (JX l (j_ (blV bs))))] 45,AObj.dead,k_ (u8v (JX l (j_ (blV bs)))) 5])))/\V' bs/\J0 (u8v (JX l (j_ (blV bs))))/\LAtZ XBs 2 f33.ntmps (hIk l) (au f33) [1,1,0] (finK (SX.E XBs) f33.results.toList K) (Ns (Sg (O' bs)) h_ (F_ (Vi 0))) (Ko (JX l (j_ (blV bs))))):=by kernel_rfl
theorem jBs_nf:type_of%(by have h:=@NA;revert h;delta b_ f_ g_ h_ i_ j_ k_ n_ z_ F_ G_ Q_ O' V' JX J0 J6 Ko;exact id):=@NA
theorem NB(K:KV)(again:KF)(l0:LB)(l:LB)(bs:Li)(i:Nat):jBsL K again l0 l bs i=(Sp (decide ((i:Int)<j_ (blV bs))) ((0<=(i:Int)/\(i:Int)<j_ (blV bs))/\nth (blV bs) i=some (KN (blV bs) i)/\HFs [f_ (u8v l),f_ (u8v (List.map dU8 (u8v l)++boT (aG (blV bs) i)))] (PH (Prod.fst (some ((([]:Lh)=[]/\u8v l=u8v (G_ l)/\List.length l=List.length (u8v l))/\List.length (u8v l)<=1000000000),J6,[n_ [g_ 2 0 (i_ (List.map dU8 (u8v l)++boT (aG (blV bs) i)))] 45,AObj.dead,k_ (u8v (List.map dU8 (u8v l)++boT (aG (blV bs) i))) 5])))/\V' bs/\J0 (u8v (List.map dU8 (u8v l)++boT (aG (blV bs) i)))/\again (Ns (Sg (O' bs)) h_ (No (v_ ((i:Int)+1)) Lf)) (Ko (List.map dU8 (u8v l)++boT (aG (blV bs) i)))) (K J6 (Ko l))):=by kernel_rfl
theorem D5:type_of%(by have h:=@NB;revert h;delta b_ f_ g_ h_ i_ j_ k_ n_ v_ G_ Q_ O' V' J0 J6 Ko KN;exact id):=@NB
theorem NC(K:KV)(l:LB)(r:Le):jIs K l r=(HFs [f_ (u8v l),f_ (u8v (JX l (j_ (inV r))))] (PH (Prod.fst (some ((([]:Lh)=[]/\u8v l=u8v (G_ l)/\List.length l=List.length (u8v l))/\(0<=j_ (inV r)/\j_ (inV r)<301)/\List.length (u8v l)<=1000000000),J6,[n_ [g_ 2 0 (i_ (JX l (j_ (inV r))))] 45,AObj.dead,k_ (u8v (JX l (j_ (inV r)))) 5])))/\HF (Vd 1 (inV r))/\J0 (u8v (JX l (j_ (inV r))))/\LAtZ XIs 2 f34.ntmps (hIk l) (au f34) [1,1,0] (finK (SX.E XIs) f34.results.toList K) (Ns (Sg (Vd 1 (inV r))) h_ (F_ (Vi 0))) (Ko (JX l (j_ (inV r))))):=by kernel_rfl
theorem jIs_nf:type_of%(by have h:=@NC;revert h;delta b_ f_ g_ h_ i_ j_ k_ n_ z_ F_ G_ Q_ JX J0 J6 Ko;exact id):=@NC
theorem ND(K:KV)(again:KF)(l0:LB)(l:LB)(r:Le)(i:Nat):jIsL K again l0 l r i=(Sp (decide ((i:Int)<j_ (inV r))) ((0<=(i:Int)/\(i:Int)<j_ (inV r))/\nth (inV r) i=some (Vi (P_ r i))/\HFs [f_ (u8v l),f_ (u8v (JX l (P_ r i)))] (PH (Prod.fst (some ((([]:Lh)=[]/\u8v l=u8v (G_ l)/\List.length l=List.length (u8v l))/\(0<=aa (inV r) i/\aa (inV r) (i:Int)<301)/\List.length (u8v l)<=1000000000),J6,[n_ [g_ 2 0 (i_ (JX l (P_ r i)))] 45,AObj.dead,k_ (u8v (JX l (P_ r i))) 5])))/\HF (Vd 1 (inV r))/\J0 (u8v (JX l (P_ r i)))/\again (Ns (Sg (Vd 1 (inV r))) h_ (No (v_ ((i:Int)+1)) Lf)) (Ko (JX l (P_ r i)))) (K J6 (Ko l))):=by kernel_rfl
theorem DF:type_of%(by have h:=@ND;revert h;delta b_ f_ g_ h_ i_ j_ k_ n_ v_ z_ G_ P_ Q_ JX J0 J6 Ko;exact id):=@ND
def bsT(l:LB)(bs:Li):LB:=bs.foldl (λt b=>t++boT b) (ikT l bs.length)
def isT(l:LB)(r:Lg):LB:=r.foldl ikT (ikT l r.length)
theorem dY(l:LB)(n:Nat):(ikT l n).length<=l.length+4:=by have:=Ar n;unfold ikT;rw[Gr,Gr];simp;omega
theorem FZ(b:Bool):(boT b).length<=5:=by cases b<;>simp[boT]
theorem qc:∀ (bs:Li) (t:LB),(bs.foldl (λt b=>t++boT b) t).length<=t.length+5*bs.length
 | [],t=>by simp
 |b::bs,t=>by have:=qc bs (t++boT b);have h:=FZ b;rw[Gr]at this;simp only[Jo,GR];omega
theorem qb:∀ (r:Lg) (t:LB),(r.foldl ikT t).length<=t.length+4*r.length
 | [],t=>by simp
 |x::r,t=>by have:=qb r (ikT t x);have h:=dY t x;simp only[Jo,GR];omega
theorem p9{b a :Type}(f: a -> b -> a)(t: a){l:List b}{i:Nat}(h:i<l.length):(l.take (i+1)).foldl f t=f ((l.take i).foldl f t) l[i]:=by rw[GU h,List.foldl_append];rfl
theorem Bo(Q:Value->AH->Prop)(a l:LB):endF env (hIk a) [] [] [] Q (.tuple ⟨[]⟩) (hIkE l)=(HF (.agg ⟨u8v l⟩)/\Q (.tuple ⟨[]⟩) (hIkE l)):=by kernel_rfl
theorem BK:XBs.Ok:=⟨am,aE,ap,.cons rS (.cons ib_tab .nil)⟩
theorem BB:XIs.Ok:=⟨am,aE,ap,.cons rS .nil⟩
theorem FV(l:LB)(bs:Li)(v:bs.length<=300)(s:l.length<=500000000):WalkF env f33 [.pointer (some ⟨0,0,none⟩),dat 1 (blV bs)] (hIk l) (.tuple ⟨[]⟩) (hIkE (bsT l bs)):=by
 have g:(u8v l).length=l.length:=Gu _;have p:=bc bs;refine aJ BK (d:=2) (ns:=[]) (zs:=[]) (ws:=[]) ((jBs_nf _ l bs).mpr ?_);rw[jo,p,Gs];refine⟨⟨aU _,aU _,⟨⟨rfl,rfl,by rw[g]⟩,⟨by omega,by omega⟩,by omega⟩⟩,.dat (aN _),aU _,?_⟩;have u:=dY l bs.length;unfold bsT;generalize ikT l bs.length=t0 at*;refine LAtZ.stepF BK [] [] [] [0,1,4] (by kernel_rfl) (λm G A=>∃ i:Nat,G=frBs (dat 1 (blV bs)) i/\A=hIkE ((bs.take i).foldl (λt b=>t++boT b) t0)/\i+m=bs.length) ?_ (k:=bs.length) ⟨0,rfl,rfl,by omega⟩;rintro m G A ⟨i,rfl,rfl,r⟩;have o:=qc (bs.take i) t0;rw[Hd]at o;have f:i=bs.length->(bs.take i).foldl (λt b=>t++boT b) t0=bs.foldl (λt b=>t++boT b) t0:=λe=>by rw[e,Hh]
 have j:=λh=>p9 (λ(t:LB) b=>t++boT b) t0 (l:=bs) (i:=i) h;generalize q:(bs.take i).foldl (λt b=>t++boT b) t0=l2 at*;have a:(u8v l2).length=l2.length:=Gu _;refine(D5 _ _ l l2 bs i).mpr (Sp.intro (λc=>?_) (λc=>?_));have c:=odt c;have n:i<bs.length:=by omega
 rw[bv n,jo,aA (x:=(i:Int)+1) (by omega) (by omega)];refine⟨⟨by omega,by omega⟩,di n,⟨aU _,aU _,⟨⟨rfl,rfl,by rw[a]⟩,by omega⟩⟩,.dat (aN _),aU _,m-1,by omega,i+1,rfl,?_,by omega⟩;rw[j n];rfl;have c:=odf c;rw[<-f (by omega)];exact(Bo _ l l2).mpr ⟨aU _,rfl,rfl⟩
theorem Ej(l:LB)(r:Lg)(t:∀ x∈r,x<301)(B:r.length<=300)(y:l.length<=500000000):WalkF env f34 [.pointer (some ⟨0,0,none⟩),dat 1 (inV (inF r))] (hIk l) (.tuple ⟨[]⟩) (hIkE (isT l r)):=by
 have j:(u8v l).length=l.length:=Gu _;have p:(inV (inF r)).length=r.length:=by rw[ah,ao]
 have s:=ao r;refine aJ BB (d:=2) (ns:=[]) (zs:=[]) (ws:=[]) ((jIs_nf _ l (inF r)).mpr ?_);rw[jo,p,Gs];refine⟨⟨aU _,aU _,⟨⟨rfl,rfl,by rw[j]⟩,⟨by omega,by omega⟩,by omega⟩⟩,.dat (ph _),aU _,?_⟩;have z:=dY l r.length;unfold isT;generalize ikT l r.length=t0 at*;refine LAtZ.stepF BB [] [] [] [0,1,4] (by kernel_rfl) (λm G A=>∃ i:Nat,G=frBs (dat 1 (inV (inF r))) i/\A=hIkE ((r.take i).foldl ikT t0)/\i+m=r.length) ?_ (k:=r.length) ⟨0,rfl,rfl,by omega⟩;rintro m G A ⟨i,rfl,rfl,v⟩;have o:=qb (r.take i) t0;rw[Hd]at o;have f:i=r.length->(r.take i).foldl ikT t0=r.foldl ikT t0:=λe=>by rw[e,Hh]
 have n:=λh=>p9 ikT t0 (l:=r) (i:=i) h;generalize u:(r.take i).foldl ikT t0=l2 at*;have a:(u8v l2).length=l2.length:=Gu _;refine(DF _ _ l l2 (inF r) i).mpr (Sp.intro (λc=>?_) (λc=>?_));have c:=odt c;have g:i<r.length:=by omega
 have b:i<(inF r).length:=by omega
 have w:=t _ (Gy g);have q:nth (inV (inF r)) i=some (Vi (r[i]:Nat)):=by rw[aP b,bF g]
 rw[aq b,bF g,jo,Gs,aA (x:=(i:Int)+1) (by omega) (by omega)];refine⟨⟨by omega,by omega⟩,q,⟨aU _,aU _,⟨⟨rfl,rfl,by rw[a]⟩,⟨by omega,by omega⟩,by omega⟩⟩,.dat (ph _),aU _,m-1,by omega,i+1,rfl,?_,by omega⟩;rw[n g];rfl;have c:=odf c;rw[<-f (by omega)];exact(Bo _ l l2).mpr ⟨aU _,rfl,rfl⟩
def spBs:Lh->List AObj->Option (Ll×Value×List AObj)
 | [.pointer (some ⟨B,o,none⟩),.func (.yield sz) ⟨bs⟩ ⟨[]⟩],[.cells [.slice (some ⟨B1,o1,none⟩) n1 k1] e0,.gro l t e]=>
   bif ((Nat.beq B 0&&Nat.beq o 0)&&(Nat.beq B1 1&&Nat.beq o1 0))&&((Nat.beq sz 1&&Nat.beq k1 (unk+3+1))&&(Nat.beq e0 45&&Nat.beq e 5))then
    some (some ((t=[]/\l=u8v (l.map dU8)/\n1=l.length)/\(bs=blV (bs.map deB)/\bs.length<=300)/\l.length<=500000000),.tuple ⟨[]⟩,[.cells [groS 2 (bsT (l.map dU8) (bs.map deB)).length] e0,.dead,.gro (u8v (bsT (l.map dU8) (bs.map deB))) [] e])else none
 |_,_=>none
def spIs:Lh->List AObj->Option (Ll×Value×List AObj)
 | [.pointer (some ⟨B,o,none⟩),.func (.yield sz) ⟨r⟩ ⟨[]⟩],[.cells [.slice (some ⟨B1,o1,none⟩) n1 k1] e0,.gro l t e]=>
   bif ((Nat.beq B 0&&Nat.beq o 0)&&(Nat.beq B1 1&&Nat.beq o1 0))&&((Nat.beq sz 1&&Nat.beq k1 (unk+3+1))&&(Nat.beq e0 45&&Nat.beq e 5))then
    some (some ((t=[]/\l=u8v (l.map dU8)/\n1=l.length)/\(r=inV (inF (toN r))/\(∀x∈toN r,x<301)/\(toN r).length<=300)/\l.length<=500000000),.tuple ⟨[]⟩,[.cells [groS 2 (isT (l.map dU8) (toN r)).length] e0,.dead,.gro (u8v (isT (l.map dU8) (toN r))) [] e])else none
 |_,_=>none
theorem bs_tab:∀ args A p v A',frmR noAr spBs args A=some (p,v,A')->PH p->CallAt env 33 args A v A':=be am (fn:=f33) rfl λargs c p v b h g=>by unfold spBs at h;split at h;rename_i B o m a x n f q w l t e;obtain⟨d,h⟩:=bw h;simp only[Gx]at h;obtain⟨rfl,rfl,rfl⟩:=h;simp only[f',GG]at d;obtain⟨⟨⟨rfl,rfl⟩,rfl,rfl⟩,⟨rfl,rfl⟩,rfl,rfl⟩:=d;obtain⟨⟨rfl,k,rfl⟩,⟨j,u⟩,s⟩:(t=[]/\l=u8v (l.map dU8)/\f=l.length)/\(a=blV (a.map deB)/\a.length<=300)/\l.length<=500000000:=g;have i:(l.map dU8).length=l.length:=Gu _;have r:(a.map deB).length=a.length:=Gu _;generalize l.map dU8=L at*;generalize a.map deB=D at*;subst k;subst j;have:=FV L D (by omega) (by omega);rw[<-j5,<-gB]at this;rw[<-i];exact this;cases h
theorem is_tab:∀ args A p v A',frmR noAr spIs args A=some (p,v,A')->PH p->CallAt env 34 args A v A':=be am (fn:=f34) rfl λargs b p v a h f=>by unfold spIs at h;split at h;rename_i B o n r y q d s w l t e;obtain⟨c,h⟩:=bw h;simp only[Gx]at h;obtain⟨rfl,rfl,rfl⟩:=h;simp only[f',GG]at c;obtain⟨⟨⟨rfl,rfl⟩,rfl,rfl⟩,⟨rfl,rfl⟩,rfl,rfl⟩:=c;obtain⟨⟨rfl,m,rfl⟩,⟨k,j,i⟩,u⟩:(t=[]/\l=u8v (l.map dU8)/\d=l.length)/\(r=inV (inF (toN r))/\(∀x∈toN r,x<301)/\(toN r).length<=300)/\l.length<=500000000:=f;have g:(l.map dU8).length=l.length:=Gu _;generalize l.map dU8=L at*;generalize toN r=D at*;subst m;subst k;have:=Ej L D j i (by omega);rw[<-j5,<-gB]at this;rw[<-g];exact this;cases h
def elAt:El:={elT [29] []with app:=true,gm:=λ_=>true}
def XAt:SX:=⟨env,[(32,frmR noAr spIk),(33,frmR noAr spBs),(34,frmR noAr spIs)],elAt,λ_=>.autoN [] [] [] [0,3,4]⟩
noncomputable def nAt:Nat:=Func.ntmps f19
noncomputable def bAt:Code:=au f19
def kFinAt(K:KV):KX:=finK env (f19.results).toList K
def frAt(i:Nat):T Value:=(Nd (Nd (Nd Lf (some (.pointer (some ⟨2,0,none⟩))) Lf) none Lf) (some (.pointer (some ⟨0,0,none⟩))) (Nd (Nd Lf (some (.int .i64 i)) Lf) none Lf))
def hAt(l:LB)(s:Int)(acc:Li)(nx:La):AH:=⟨(Nd (Nd (Nd Lf (some (.gro (u8v l) [] 5)) Lf) (some (.dead)) Lf) (some (.cells [groS 3 l.length] 45)) (Nd Lf (some (auC s acc nx)) Lf)),4⟩
def jAt(K:KV)(l:LB)(s:Int)(acc:Li)(nx:La):Prop:=bh XAt 2 f19 [.pointer (some ⟨0,0,none⟩),.agg ⟨[.int .i64 s,dat 1 (blV acc),dat 1 (roV nx)]⟩] (hIk l) K
def jAtL(K:KV)(again:KF)(l0 l:LB)(s:Int)(acc:Li)(nx:La)(i:Nat):Prop:=aI XAt 2 nAt (hIk l0) bAt [1,1,1,1,1,0] (kFinAt K) [] [] [] [0,3,4] again (frAt i) (hAt l s acc nx)
abbrev LD:=λa b c=>bsT (G_ (JX a b)) (u_ c)
theorem NE(K:KV)(l:LB)(s:Int)(acc:Li)(nx:La):jAt K l s acc nx=(HFs [f_ (u8v l),f_ (u8v (JX l s))] (PH (Prod.fst (some ((([]:Lh)=[]/\u8v l=u8v (G_ l)/\List.length l=List.length (u8v l))/\(0<=s/\s<301)/\List.length (u8v l)<=1000000000),J6,[n_ [g_ 2 0 (i_ (JX l s))] 45,AObj.dead,k_ (u8v (JX l s)) 5])))/\HFs [O' acc,f_ (u8v (JX l s)),f_ (u8v (LD l s acc))] (PH (Prod.fst (some ((([]:Lh)=[]/\u8v (JX l s)=u8v (G_ (JX l s))/\List.length (JX l s)=List.length (u8v (JX l s)))/\(blV acc=blV (u_ acc)/\List.length (blV acc)<=300)/\List.length (u8v (JX l s))<=500000000),J6,[n_ [g_ 2 0 (i_ (LD l s acc))] 45,AObj.dead,k_ (u8v (LD l s acc)) 5])))/\HFs [f_ (u8v (LD l s acc)),f_ (u8v (JX (LD l s acc) (Kh nx)))] (PH (Prod.fst (some ((([]:Lh)=[]/\u8v (LD l s acc)=u8v (G_ (LD l s acc))/\List.length (LD l s acc)=List.length (u8v (LD l s acc)))/\(0<=Kh nx/\Kh nx<301)/\List.length (u8v (LD l s acc))<=1000000000),J6,[n_ [g_ 2 0 (i_ (JX (LD l s acc) (Kh nx)))] 45,AObj.dead,k_ (u8v (JX (LD l s acc) (Kh nx))) 5])))/\V' acc/\K9 nx/\J0 (u8v (JX (LD l s acc) (Kh nx)))/\LAtZ XAt 2 f19.ntmps (hIk l) (au f19) [1,1,1,1,1,0] (finK (SX.E XAt) f19.results.toList K) (Ns (F_ (c_ 2 0)) h_ (F_ (Vi 0))) (Q_ (Ns (KG (u8v (JX (LD l s acc) (Kh nx))) 5) AObj.dead Lf) (n_ [g_ 3 0 (i_ (JX (LD l s acc) (Kh nx)))] 45) (Sg (l_ s acc nx)) 4)):=by kernel_rfl
theorem jAt_nf:type_of%(by have h:=@NE;revert h;delta b_ c_ f_ g_ h_ i_ j_ k_ l_ n_ u_ z_ F_ G_ Q_ W_ O' V' JX J0 J6 Kh KG K9 LD;exact id):=@NE
theorem NF(K:KV)(again:KF)(l0:LB)(l:LB)(s:Int)(acc:Li)(nx:La)(i:Nat):jAtL K again l0 l s acc nx i=(Sp (decide ((i:Int)<Kh nx)) ((0<=(i:Int)/\(i:Int)<Kh nx)/\nth (roV nx) i=some (Vd 1 (KA nx i))/\HFs [Vd 1 (KA nx i),f_ (u8v l),f_ (u8v (isT (G_ l) (toN (KA nx i))))] (PH (Prod.fst (some ((([]:Lh)=[]/\u8v l=u8v (G_ l)/\List.length l=List.length (u8v l))/\(ae (roV nx) (i:Int)=inV (inF (toN (KA nx i)))/\(∀(x:Nat),x∈toN (ae (roV nx) i)->x<301)/\List.length (toN (KA nx i))<=300)/\List.length (u8v l)<=500000000),J6,[n_ [g_ 2 0 (i_ (isT (G_ l) (toN (KA nx i))))] 45,AObj.dead,k_ (u8v (isT (G_ l) (toN (KA nx i)))) 5])))/\V' acc/\K9 nx/\J0 (u8v (isT (G_ l) (toN (KA nx i))))/\again (Ns (F_ (c_ 2 0)) h_ (No (v_ ((i:Int)+1)) Lf)) (Q_ (Ns (KG (u8v (isT (G_ l) (toN (KA nx i)))) 5) AObj.dead Lf) (n_ [g_ 3 0 (i_ (isT (G_ l) (toN (KA nx i))))] 45) (Sg (l_ s acc nx)) 4)) (K J6 (Q_ (Ns (KG (u8v l) 5) AObj.dead Lf) (n_ [g_ 3 0 (i_ l)] 45) (Sg (l_ s acc nx)) 4))):=by kernel_rfl
theorem D9:type_of%(by have h:=@NF;revert h;delta b_ c_ f_ g_ h_ i_ j_ k_ l_ n_ v_ F_ G_ Q_ W_ V' J0 J6 Kh KA KG K9;exact id):=@NF
structure TOk (a:AU):Prop where
 s:0<=a.1/\a.1<301
 acc:a.2.1.length<=300
 nx:a.2.2.length<=300
 row:∀ r∈a.2.2,r.length<=300/\∀ x∈r,0<=x/\x<301
def rwT(t:LB)(r:Le):LB:=isT t (r.map Int.toNat)
def auT(l:LB)(a:AU):LB:=a.2.2.foldl rwT (ikT (bsT (ikT l a.1.toNat) a.2.1) a.2.2.length)
theorem BX(r:Le):toN (inV r)=r.map Int.toNat:=by unfold toN;rw[dp]
theorem Er{r:Le}(h:∀ x∈r,0<=x):inF (r.map Int.toNat)=r:=by
 unfold inF;rw[Hp];conv=>rhs;rw[<-HZ r]
 refine GT λx a=>?_;have:=h x a;show((x.toNat:Nat):Int)=x;omega
theorem CF(t:LB){r:Le}(h:r.length<=300):(rwT t r).length<=t.length+1300:=by unfold rwT isT;have c:=qb (r.map Int.toNat) (ikT t (r.map Int.toNat).length);have b:=dY t (r.map Int.toNat).length;have a:(r.map Int.toNat).length=r.length:=Gu _;omega
theorem qa:∀ (nx:La) (t:LB),(∀r∈nx,r.length<=300)->(nx.foldl rwT t).length<=t.length+1300*nx.length
 | [],t,_=>by simp
 |r::nx,t,h=>by have c:=qa nx (rwT t r) λx a=>h x (GJ _ a);have b:=CF t (h r GL);simp only[Jo,GR];omega
theorem xy(l:LB)(bs:Li):(bsT l bs).length<=l.length+4+5*bs.length:=by have b:=qc bs (ikT l bs.length);have a:=dY l bs.length;unfold bsT;omega
theorem BL:XAt.Ok:=⟨am,aE,ap,.cons rS (.cons bs_tab (.cons is_tab .nil))⟩
theorem end_at(Q:Value->AH->Prop)(a l:LB)(s:Int)(acc:Li)(nx:La):endF env (hIk a) [] [] [] Q (.tuple ⟨[]⟩) (hAt l s acc nx)=(HF (.agg ⟨u8v l⟩)/\Q (.tuple ⟨[]⟩) (hIkE l)):=by kernel_rfl
theorem F8(l:LB){a:AU}(h:TOk a)(L:l.length<=1000):WalkF env f19 [.pointer (some ⟨0,0,none⟩),auV a] (hIk l) (.tuple ⟨[]⟩) (hIkE (auT l a)):=by
 obtain⟨s,f,b⟩:=a;obtain⟨w,F,D,q⟩:=h;dsimp only at w F D q;unfold auT;dsimp only;have n:∀ T:LB,(u8v T).length=T.length:=λT=>Gu _;have H:=bc f;have B:=aL b;have K:=dY l s.toNat;refine aJ BL (d:=2) (ns:=[]) (zs:=[]) (ws:=[]) ((jAt_nf _ l s f b).mpr ?_);simp only[jo,cx,B,Gs];generalize ikT l s.toNat=t1 at*;have J:=xy t1 f;generalize bsT t1 f=t2 at*;have I:=dY t2 b.length;generalize ikT t2 b.length=t0 at*;have l0:=n l;have l1:=n t1;have l2:=n t2;refine⟨⟨aU _,aU _,⟨⟨trivial,trivial,by omega⟩,w,by omega⟩⟩,⟨.dat (aN _),aU _,aU _,⟨⟨trivial,trivial,by omega⟩,⟨trivial,by omega⟩,by omega⟩⟩,⟨aU _,aU _,⟨⟨trivial,trivial,by omega⟩,⟨by omega,by omega⟩,by omega⟩⟩,.dat (aN _),.dat (aK _),aU _,?_⟩;refine LAtZ.stepF BL [] [] [] [0,3,4] (by kernel_rfl) (λm G A=>∃ i:Nat,G=frAt i/\A=hAt ((b.take i).foldl rwT t0) s f b/\i+m=b.length) ?_ (k:=b.length) ⟨0,rfl,rfl,by omega⟩;rintro m G A ⟨i,rfl,rfl,E⟩;have u:=qa (b.take i) t0 λr g=>(q r (H6 g)).1;rw[Hd]at u;have j:i=b.length->(b.take i).foldl rwT t0=b.foldl rwT t0:=λe=>by rw[e,Hh]
 have p:=λh=>p9 rwT t0 (l:=b) (i:=i) h;generalize (b.take i).foldl rwT t0=l3 at*;have l4:=n l3;refine(D9 _ _ l l3 s f b i).mpr (Sp.intro (λc=>?_) (λc=>?_));have c:=odt c;have o:i<b.length:=by omega
 obtain⟨z,v⟩:=q _ (Gy o);have t:=Er (r:=b[i]) λx g=>(v x g).1;rw[bM o,jo,BX,t,aA (x:=(i:Int)+1) (by omega) (by omega)];refine⟨⟨by omega,by omega⟩,cK o,⟨.dat (ph _),aU _,aU _,⟨⟨rfl,rfl,by omega⟩,⟨rfl,λx g=>?_,by rw[Gu];exact z⟩,by omega⟩⟩,.dat (aN _),.dat (aK _),aU _,m-1,by omega,i+1,rfl,?_,by omega⟩;obtain⟨y,C,rfl⟩:=Gv.1 g;have:=v y C;omega;rw[p o];rfl;have c:=odf c;rw[<-j (by omega)];exact(end_at _ l l3 s f b).mpr ⟨aU _,rfl,rfl⟩
def spAt:Lh->List AObj->Option (Ll×Value×List AObj)
 | [.pointer (some ⟨B,o,none⟩),u],[.cells [.slice (some ⟨B1,o1,none⟩) n1 k1] e0,.gro l t e]=>(match auQ u with
   | some a=>bif ((Nat.beq B 0&&Nat.beq o 0)&&(Nat.beq B1 1&&Nat.beq o1 0))&&(Nat.beq k1 (unk+3+1)&&(Nat.beq e0 45&&Nat.beq e 5))then
     some (some ((t=[]/\l=u8v (l.map dU8)/\n1=l.length)/\(u=auV a/\TOk a)/\l.length<=1000),.tuple ⟨[]⟩,[.cells [groS 2 (auT (l.map dU8) a).length] e0,.dead,.gro (u8v (auT (l.map dU8) a)) [] e])else none
   |none=>none)
 |_,_=>none
theorem at_tab:∀ args A p v A',frmR noAr spAt args A=some (p,v,A')->PH p->CallAt env 19 args A v A':=be am (fn:=f19) rfl λargs c p v b h g=>by unfold spAt at h;split at h;rename_i B o u w m f n s l t e;split at h;rename_i a q;obtain⟨d,h⟩:=bw h;simp only[Gx]at h;obtain⟨rfl,rfl,rfl⟩:=h;simp only[f',GG]at d;obtain⟨⟨⟨rfl,rfl⟩,rfl,rfl⟩,rfl,rfl,rfl⟩:=d;obtain⟨⟨rfl,k,rfl⟩,⟨rfl,j⟩,r⟩:(t=[]/\l=u8v (l.map dU8)/\f=l.length)/\(u=auV a/\TOk a)/\l.length<=1000:=g;have i:(l.map dU8).length=l.length:=Gu _;generalize l.map dU8=L at*;subst k;have:=F8 L j (by omega);rw[<-j5,<-gB]at this;rw[<-i];exact this;cases h;cases h
def elTd:El:={elT [] []with app:=true,gm:=λ_=>true,hk:=λd=>match d with|some 7=>[(.cell 7 0,5,1)]|_=>[]}
def XTd:SX:=⟨env,[(19,frmR noAr spAt),(32,frmR noAr spIk)],elTd,λ_=>.unroll 0⟩
def jTd(K:KV)(s:Int)(acc:Li)(nx:La)(e:Int):Prop:=bh XTd 3 f7 [.agg ⟨[.int .i64 s,dat 1 (blV acc),dat 1 (roV nx)]⟩,.int .i64 e] ⟨.leaf,0⟩ K
end
end Go.T9
