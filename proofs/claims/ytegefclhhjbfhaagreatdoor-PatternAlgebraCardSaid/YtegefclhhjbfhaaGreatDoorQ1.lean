/- A part of the proof. -/
import Derived.Test.YtegefclhhjbfhaaGreatDoorN8
import Derived.Test.YtegefclhhjbfhaaGreatDoorF2
import Derived.Test.YtegefclhhjbfhaaGreatDoorX2
import Derived.Test.YtegefclhhjbfhaaGreatDoorX1
import Derived.Test.YtegefclhhjbfhaaGreatDoorX4
import Derived.Test.YtegefclhhjbfhaaGreatDoorX3
set_option linter.unusedVariables false
set_option linter.unusedSimpArgs false
set_option maxRecDepth 1000000
namespace Go.T9
open Go Go.AM Go.MK Go.HK Go.Proofs.Tryz
noncomputable section
def okN3(n:Nat):Bool:=match iN env1 (evN env1 100000) 109 [.int .u64 n] ⟨.leaf,0⟩with
 |some (.int .i64 m,_)=>decide (m=3)
 |_=>false
def qy:Nat->Nat->Bool
 |_,0=>true
 |m,k+1=>okN3 m&&qy (m+1) k
theorem fj:∀ {k m n:Nat},qy m k=true->m<=n->n<m+k->okN3 n=true
 |0,m,n,_,h1,h2=>by omega
 |k+1,m,n,h,h1,h2=>by simp only[qy,f']at h;by_cases e:n=m;subst e;exact h.1;exact fj h.2 (by omega) (by omega)
theorem n3a:qy 100 51=true:=by kernel_rfl
theorem n3b:qy 151 50=true:=by kernel_rfl
theorem n3c:qy 201 50=true:=by kernel_rfl
theorem n3d:qy 251 50=true:=by kernel_rfl
theorem yT{n:Nat}(d:100<=n)(e:n<301):okN3 n=true:=by by_cases a:n<151;exact fj n3a d (by omega);by_cases b:n<201;exact fj n3b (by omega) (by omega);by_cases c:n<251;exact fj n3c (by omega) (by omega);exact fj n3d (by omega) (by omega)
def n3Y:Lh->Lj
 | [.int .u64 x]=>bif decide (100<=x)&&decide (x<301)then some (.int .i64 3)else none
 |_=>none
theorem n3_con:Con env 109 (dw n3Y):=lH qk rfl wP rfl (fun l d g i e=>d g i e) λc v a=>by unfold n3Y at a;split at a;rename_i x;cases b:decide (100<=x)&&decide (x<301);rw[b]at a;cases a;rw[b]at a;simp only[C',osI]at a;subst a;simp only[f',GQ]at b;obtain⟨m,rfl⟩:=Hu (show 0<=x by omega);refine⟨rfl,rfl,?_⟩;have h:=yT (n:=m) (by omega) (by omega);unfold okN3 at h;split at h;rename_i k j f;have:k=3:=odt h;subst this;exact⟨_,j,f⟩;cases h;cases a
def n3P:Lh->Ll
 | [.int .u64 x]=>some (100<=x/\x<301)
 |_=>none
def n3X:Lh->Lj
 | [.int .u64 x]=>some (.int .i64 3)
 |_=>none
theorem AN:∀ args A p v A',bw n3P n3X args A=some (p,v,A')->PH p->CallAt env 109 args A v A':=
 gF λargs v b d A c w a R e f=>by refine n3_con args A v A ?_ c w a R e f;unfold n3X at b;split at b;rename_i x;obtain⟨h,g⟩:100<=x/\x<301:=d;cases b;simp[dw,n3Y,h,g];cases b
def tB(t:ByteArray)(i:Nat):UInt8:=match nth t.data.toList i with|some b=>b|none=>0
def tb99:ByteArray:=⟨⟨[48,48,48,49,48,50,48,51,48,52,48,53,48,54,48,55,48,56,48,57,49,48,49,49,49,50,49,51,49,52,49,53,49,54,49,55,49,56,49,57,50,48,50,49,50,50,50,51,50,52,50,53,50,54,50,55,50,56,50,57,51,48,51,49,51,50,51,51,51,52,51,53,51,54,51,55,51,56,51,57,52,48,52,49,52,50,52,51,52,52,52,53,52,54,52,55,52,56,52,57,53,48,53,49,53,50,53,51,53,52,53,53,53,54,53,55,53,56,53,57,54,48,54,49,54,50,54,51,54,52,54,53,54,54,54,55,54,56,54,57,55,48,55,49,55,50,55,51,55,52,55,53,55,54,55,55,55,56,55,57,56,48,56,49,56,50,56,51,56,52,56,53,56,54,56,55,56,56,56,57,57,48,57,49,57,50,57,51,57,52,57,53,57,54,57,55,57,56,57,57]⟩⟩
def tD(n:Nat):LB:=if n<10 then [UInt8.ofNat (48+n)]else if n<100 then [UInt8.ofNat (48+n/10),UInt8.ofNat (48+n%10)]else [UInt8.ofNat (48+n/100),tB tb99 (n%100*2),tB tb99 (n%100*2+1)]
def okSm(n:Nat):Bool:=match iN env1 (evN env1 100000) 108 [.int .i64 n] ⟨.leaf,0⟩with
 |some (.string s,_)=>eqL s.data.toList (tD n)
 |_=>false
def xR:Nat->Nat->Bool
 |_,0=>true
 |m,k+1=>okSm m&&xR (m+1) k
theorem kJ:∀ {k m n:Nat},xR m k=true->m<=n->n<m+k->okSm n=true
 |0,m,n,_,h1,h2=>by omega
 |k+1,m,n,h,h1,h2=>by simp only[xR,f']at h;by_cases e:n=m;subst e;exact h.1;exact kJ h.2 (by omega) (by omega)
theorem sma:xR 0 50=true:=by kernel_rfl
theorem smb:xR 50 50=true:=by kernel_rfl
theorem yS{n:Nat}(b:n<100):okSm n=true:=by by_cases a:n<50;exact kJ sma (by omega) (by omega);exact kJ smb (by omega) (by omega)
def smY:Lh->Lj
 | [.int .i64 x]=>bif decide (0<=x)&&decide (x<100)then some (.string (ao (tD x.toNat)))else none
 |_=>none
theorem Aw:Con env 108 (dw smY):=lH qk rfl wP rfl (fun k d g i e=>d g i e) λc v a=>by
 unfold smY at a;split at a;rename_i x;cases b:decide (0<=x)&&decide (x<100);rw[b]at a;cases a;rw[b]at a;simp only[C',osI]at a;subst a;simp only[f',GQ]at b;obtain⟨m,rfl⟩:=Hu b.1;refine⟨rfl,rfl,?_⟩;have h:=yS (n:=m) (by omega);unfold okSm at h;split at h;rename_i s j f;rw[dZ]at h;have:s=ao (tD (Int.toNat ((m:Nat):Int))):=by rcases s with⟨⟨l⟩⟩;exact HD (λl=>ByteArray.mk (Array.mk l)) h
 rw[<-this];exact⟨_,j,f⟩;cases h;cases a
def d8(x:Int):UInt8:=UInt8.ofNat (48+x.toNat)
def s1P:Lh->Ll
 | [.int .i64 x]=>some (0<=x/\x<10)
 |_=>none
def s1X:Lh->Lj
 | [.int .i64 x]=>some (.string (ao [d8 x]))
 |_=>none
def s2P:Lh->Ll
 | [.int .i64 x]=>some (10<=x/\x<100)
 |_=>none
def s2X:Lh->Lj
 | [.int .i64 x]=>some (.string (ao [d8 (x/10),d8 (x%10)]))
 |_=>none
theorem s1_tab:∀ args A p v A',bw s1P s1X args A=some (p,v,A')->PH p->CallAt env 108 args A v A':=
 gF λargs v b f A e w a R g h=>by
  refine Aw args A v A ?_ e w a R g h;unfold s1X at b;split at b;rename_i x;obtain⟨d,j⟩:0<=x/\x<10:=f;cases b;obtain⟨m,rfl⟩:=Hu d;have i:((m:Nat):Int)<100:=by omega
  have c:tD (Int.toNat ((m:Nat):Int))=[d8 (m:Int)]:=by unfold tD d8;rw[Gz,Gw (by omega)]
  simp[dw,smY,d,i,c];exact HD ao c;cases b
theorem s2_tab:∀ args A p v A',bw s2P s2X args A=some (p,v,A')->PH p->CallAt env 108 args A v A':=
 gF λargs v b e A d w a R f g=>by
  refine Aw args A v A ?_ d w a R f g;unfold s2X at b;split at b;rename_i x;obtain⟨l,h⟩:10<=x/\x<100:=e;cases b;obtain⟨m,rfl⟩:=Hu (show 0<=x by omega);have i:(0:Int)<=((m:Nat):Int):=by omega
  have c:tD (Int.toNat ((m:Nat):Int))=[d8 ((m:Int)/10),d8 ((m:Int)%10)]:=by
   unfold tD d8;rw[Gz,D' (by omega),Gw (by omega)];have k:Int.toNat ((m:Int)/10)=m/10:=by omega
   have j:Int.toNat ((m:Int)%10)=m%10:=by omega
   rw[k,j]
  simp[dw,smY,i,h,c];exact HD ao c;cases b
def elIk:El:={El.of (λ_ _ els i=>some (.int .u8 (aa els i)))with app:=true,gm:=λ_=>true}
def XA1:SX:=⟨env,[(109,bw n3P n3X),(108,bw s1P s1X)],elIk,λ_=>.unroll 0⟩
def XA2:SX:=⟨env,[(109,bw n3P n3X),(108,bw s2P s2X)],elIk,λ_=>.unroll 0⟩
def jAu1(K:KV)(l:LB)(x:Int):Prop:=bc XA1 3 f103 [groS 0 l.length,.int .u64 x,.int .i64 10] (hU l) K
def jAu2(K:KV)(l:LB)(x:Int):Prop:=bc XA2 3 f103 [groS 0 l.length,.int .u64 x,.int .i64 10] (hU l) K
set_option maxHeartbeats 400000
abbrev M_:=λa b=>AH.mk (Ns (Ns Lf (r_ [Value.int .u8 (IntKind.wrap .u8 (IntKind.wrap IntKind.u32 (48+IntKind.wrap IntKind.u32 (Int.tdiv (IntKind.wrap IntKind.u32 a) 100)))),Value.int .u8 (bP tb99 (IntKind.wrap IntKind.u32 (Int.tmod (IntKind.wrap IntKind.u32 a) 100*2))),Value.int .u8 (bP tb99 (IntKind.wrap IntKind.u32 (IntKind.wrap IntKind.u32 (Int.tmod (IntKind.wrap IntKind.u32 a) 100*2)+1))),Value.int .u8 0,Value.int .u8 0,Value.int .u8 0,Value.int .u8 0,Value.int .u8 0,Value.int .u8 0,Value.int .u8 0,Value.int .u8 0,Value.int .u8 0,Value.int .u8 0,Value.int .u8 0,Value.int .u8 0,Value.int .u8 0,Value.int .u8 0,Value.int .u8 0,Value.int .u8 0,Value.int .u8 0,Value.int .u8 0,Value.int .u8 0,Value.int .u8 0,Value.int .u8 0] 156) (t_ (Sg (AObj.gro (u8v b) [Value.int .u8 (IntKind.wrap .u8 (IntKind.wrap IntKind.u32 (48+IntKind.wrap IntKind.u32 (Int.tdiv (IntKind.wrap IntKind.u32 a) 100)))),Value.int .u8 (bP tb99 (IntKind.wrap IntKind.u32 (Int.tmod (IntKind.wrap IntKind.u32 a) 100*2))),Value.int .u8 (bP tb99 (IntKind.wrap IntKind.u32 (IntKind.wrap IntKind.u32 (Int.tmod (IntKind.wrap IntKind.u32 a) 100*2)+1)))] 5)))) AObj.dead Lf) 18
abbrev R_:=λa=>IntKind.wrap IntKind.u32 a
theorem LR(K:KV)(l:LB)(x:Int):jAu1 K l x=(Sp (decide (x<100)) ((0<=IntKind.wrap .i64 x/\IntKind.wrap .i64 x<10)/\(List.all [J_ (u_ (UInt8.toNat (d8 (IntKind.wrap .i64 x))))] cellv=true/\List.length l+0=List.length (u8v l)/\List.length l+(1:Nat)<=(70368744177664:Nat)/\(List.length l+1)*(1:Nat)<=(140737488355328:Nat))/\K (h_ 1 0 (List.length l+1)) (AH.mk (Ns (Sg (AObj.gro (u8v l) [J_ (u_ (UInt8.toNat (d8 (IntKind.wrap .i64 x))))] 5)) AObj.dead Lf) 2)) ((100<=x/\x<301)/\NZ 100/\NZ 100/\(0<=IntKind.wrap IntKind.u32 (IntKind.wrap IntKind.u32 (Int.tmod (R_ x) 100*2)+1)/\IntKind.wrap IntKind.u32 (IntKind.wrap IntKind.u32 (Int.tmod (R_ x) 100*2)+1)<200)/\(0<=IntKind.wrap IntKind.u32 (Int.tmod (R_ x) 100*2)/\IntKind.wrap IntKind.u32 (Int.tmod (R_ x) 100*2)<200)/\(List.all [J_ (IntKind.wrap .u8 (R_ (48+IntKind.wrap IntKind.u32 (Int.tdiv (R_ x) 100)))),J_ (bP tb99 (R_ (Int.tmod (R_ x) 100*2))),J_ (bP tb99 (R_ (IntKind.wrap IntKind.u32 (Int.tmod (R_ x) 100*2)+1)))] cellv=true/\List.length l+0=List.length (u8v l)/\List.length l+(3:Nat)<=(70368744177664:Nat)/\(List.length l+3)*(1:Nat)<=(140737488355328:Nat))/\K (h_ 17 0 (List.length l+3)) (M_ x l))):=by kernel_rfl
theorem D9:type_of%(by have h:=@LR;revert h;delta b_ h_ r_ t_ u_ J_ M_ R_;exact id):=@LR
theorem LS(K:KV)(l:LB)(x:Int):jAu2 K l x=(Sp (decide (x<100)) ((10<=IntKind.wrap .i64 x/\IntKind.wrap .i64 x<100)/\(List.all [J_ (u_ (UInt8.toNat (d8 (IntKind.wrap .i64 x/10)))),J_ (u_ (UInt8.toNat (d8 (IntKind.wrap .i64 x%10))))] cellv=true/\List.length l+0=List.length (u8v l)/\List.length l+(2:Nat)<=(70368744177664:Nat)/\(List.length l+2)*(1:Nat)<=(140737488355328:Nat))/\K (h_ 1 0 (List.length l+2)) (AH.mk (Ns (Sg (AObj.gro (u8v l) [J_ (u_ (UInt8.toNat (d8 (IntKind.wrap .i64 x/10)))),J_ (u_ (UInt8.toNat (d8 (IntKind.wrap .i64 x%10))))] 5)) AObj.dead Lf) 2)) ((100<=x/\x<301)/\NZ 100/\NZ 100/\(0<=IntKind.wrap IntKind.u32 (IntKind.wrap IntKind.u32 (Int.tmod (R_ x) 100*2)+1)/\IntKind.wrap IntKind.u32 (IntKind.wrap IntKind.u32 (Int.tmod (R_ x) 100*2)+1)<200)/\(0<=IntKind.wrap IntKind.u32 (Int.tmod (R_ x) 100*2)/\IntKind.wrap IntKind.u32 (Int.tmod (R_ x) 100*2)<200)/\(List.all [J_ (IntKind.wrap .u8 (R_ (48+IntKind.wrap IntKind.u32 (Int.tdiv (R_ x) 100)))),J_ (bP tb99 (R_ (Int.tmod (R_ x) 100*2))),J_ (bP tb99 (R_ (IntKind.wrap IntKind.u32 (Int.tmod (R_ x) 100*2)+1)))] cellv=true/\List.length l+0=List.length (u8v l)/\List.length l+(3:Nat)<=(70368744177664:Nat)/\(List.length l+3)*(1:Nat)<=(140737488355328:Nat))/\K (h_ 17 0 (List.length l+3)) (M_ x l))):=by kernel_rfl
theorem D8:type_of%(by have h:=@LS;revert h;delta b_ h_ r_ t_ u_ J_ M_ R_;exact id):=@LS
theorem sF(t:ByteArray)(k:Nat):bP t (k:Int)=((tB t k).toNat:Int):=by unfold bP tB;rw[Gz];cases nth t.data.toList k<;>rfl
theorem nK{x:Int}(b:0<=x)(a:x<4294967296):IntKind.wrap .u32 x=x:=by unfold IntKind.wrap;exact Int.emod_eq_of_lt b a
theorem u8_in{x:Int}(b:0<=x)(a:x<256):IntKind.wrap .u8 x=x:=by unfold IntKind.wrap;exact Int.emod_eq_of_lt b a
theorem Ft(Q:Value->AH->Prop)(l:LB)(t:Lh)(n:Nat):endF env (hU l) [] [] [] Q (groS 1 n) ⟨(.node (.node .leaf (some (.gro (u8v l) t 5)) .leaf) (some (.dead)) .leaf),2⟩=(HF (.agg ⟨glue (u8v l) t⟩)/\Q (groS 1 n) ⟨(.node (.node .leaf (some (.gro (glue (u8v l) t) [] 5)) .leaf) (some (.dead)) .leaf),2⟩):=by kernel_rfl
theorem Fr(Q:Value->AH->Prop)(l:LB)(z t:Lh)(n:Nat):endF env (hU l) [] [] [] Q (groS 17 n) ⟨(.node (.node .leaf (some (.cells z 156)) (.node (.node (.node .leaf (some (.gro (u8v l) t 5)) .leaf) none .leaf) none .leaf)) (some (.dead)) .leaf),18⟩=(HF (.agg ⟨glue (u8v l) t⟩)/\Q (groS 1 n) ⟨(.node (.node .leaf (some (.gro (glue (u8v l) t) [] 5)) .leaf) (some (.dead)) .leaf),2⟩):=by kernel_rfl
theorem XA1_ok:XA1.Ok:=⟨ak,aA,an,.cons AN (.cons s1_tab .nil)⟩
theorem XA2_ok:XA2.Ok:=⟨ak,aA,an,.cons AN (.cons s2_tab .nil)⟩
theorem Gd(l:LB)(x:Nat)(w:x<301)(y:l.length<=10000000000):WalkF env f103 [groS 0 l.length,.int .u64 (x:Int),.int .i64 10] (hU l) (groS 1 (l++tD x).length) (hUE (l++tD x)):=by
 have b:(u8v l).length=l.length:=GB _;have c:IntKind.wrap .i64 (x:Int)=x:=aM (by omega) (by omega);have a:∀ r:LB,tD x=r->endF env (hU l) [] [] [] (λv1 i=>v1=groS 1 (l++tD x).length/\i=hUE (l++tD x)) (groS 1 (l.length+r.length)) ⟨(.node (.node .leaf (some (.gro (u8v l) (u8v r) 5)) .leaf) (some (.dead)) .leaf),2⟩:=λr g=>by refine(Ft _ l (u8v r) _).mpr ?_;rw[cb,<-fX,g];exact⟨be _,by rw[Gx],rfl⟩
 have f:∀ (r:LB) (z:Lh),tD x=r->endF env (hU l) [] [] [] (λv1 i=>v1=groS 1 (l++tD x).length/\i=hUE (l++tD x)) (groS 17 (l.length+r.length)) ⟨(.node (.node .leaf (some (.cells z 156)) (.node (.node (.node .leaf (some (.gro (u8v l) (u8v r) 5)) .leaf) none .leaf) none .leaf)) (some (.dead)) .leaf),18⟩:=λr z g=>by refine(Fr _ l z (u8v r) _).mpr ?_;rw[cb,<-fX,g];exact⟨be _,by rw[Gx],rfl⟩
 by_cases h:x<10;have hd:tD x=[d8 (x:Int)]:=by unfold tD d8;rw[Gz,Gw h]
 refine aq XA1_ok (d:=3) (ns:=[]) (zs:=[]) (ws:=[]) ((D9 _ l (x:Int)).mpr (Sp.intro (λq=>?_) (λq=>absurd (odf q) (by omega))));rw[c];have e:=a _ hd;generalize tD x=T at*;exact⟨⟨by omega,by omega⟩,⟨rfl,by rw[b,Ht],by omega,by omega⟩,e⟩;refine aq XA2_ok (d:=3) (ns:=[]) (zs:=[]) (ws:=[]) ((D8 _ l (x:Int)).mpr (Sp.intro (λq=>?_) (λq=>?_)));have q:=odt q;have hd:tD x=[d8 ((x:Int)/10),d8 ((x:Int)%10)]:=by
  unfold tD d8;rw[D' h,Gw (by omega)];have v:Int.toNat ((x:Int)/10)=x/10:=by omega
  have u:Int.toNat ((x:Int)%10)=x%10:=by omega
  rw[v,u]
 rw[c];have e:=a _ hd;generalize tD x=T at*;exact⟨⟨by omega,by omega⟩,⟨rfl,by rw[b,Ht],by omega,by omega⟩,e⟩;have q:=odf q;have t:IntKind.wrap .u32 (x:Int)=x:=nK (by omega) (by omega);have s:Int.tmod (x:Int) 100=((x%100:Nat):Int):=by rw[Int.tmod_eq_emod_of_nonneg (by omega)];omega
 have p:IntKind.wrap .u32 (((x%100:Nat):Int)*2)=((x%100*2:Nat):Int):=by rw[nK (by omega) (by omega)];omega
 have o:IntKind.wrap .u32 (((x%100*2:Nat):Int)+1)=((x%100*2+1:Nat):Int):=by rw[nK (by omega) (by omega)];omega
 have n:Int.tdiv (x:Int) 100=((x/100:Nat):Int):=by rw[Int.tdiv_eq_ediv_of_nonneg (by omega)];omega
 have m:IntKind.wrap .u32 ((x/100:Nat):Int)=((x/100:Nat):Int):=nK (by omega) (by omega);have k:IntKind.wrap .u32 (48+((x/100:Nat):Int))=((48+x/100:Nat):Int):=by rw[nK (by omega) (by omega)];omega
 have j:IntKind.wrap .u8 ((48+x/100:Nat):Int)=((UInt8.ofNat (48+x/100)).toNat:Int):=by
  rw[u8_in (by omega) (by omega)];have:(UInt8.ofNat (48+x/100)).toNat=48+x/100:=by simp;omega
  rw[this]
 have hd:tD x=[UInt8.ofNat (48+x/100),tB tb99 (x%100*2),tB tb99 (x%100*2+1)]:=by unfold tD;rw[D' h,D' (by omega)]
 rw[t,s,p,o,n,m,k,j,sF,sF];have e:=λz=>f _ z hd;generalize tD x=T at*;generalize UInt8.ofNat (48+x/100)=b0 at*;generalize tB tb99 (x%100*2)=b1 at*;generalize tB tb99 (x%100*2+1)=b2 at*;exact⟨⟨by omega,by omega⟩,(by unfold NZ;decide),(by unfold NZ;decide),⟨by omega,by omega⟩,⟨by omega,by omega⟩,⟨rfl,by rw[b,Ht],by omega,by omega⟩,e _⟩
def auL(l:Lh)(x:Int):LB:=l.map dU8++tD x.toNat
def spAu:Lh->List AObj->Option (Ll×Value×List AObj)
 | [.slice (some ⟨B,o,none⟩) n k,.int .u64 x,.int .i64 b],[.gro l t e]=>
   bif ((Nat.beq B 0&&Nat.beq o 0)&&(Nat.beq k (unk+3+1)&&Nat.beq e 5))&&decide (b=10)then
    some (some (t=[]/\l=u8v (l.map dU8)/\n=l.length/\(0<=x/\x<301)/\l.length<=10000000000),groS 1 (auL l x).length,[.dead,.gro (u8v (auL l x)) [] e])else none
 |_,_=>none
theorem au_tab:∀ args A p v A',frmR noAr spAu args A=some (p,v,A')->PH p->CallAt env 103 args A v A':=aY ak (fn:=f103) rfl λargs c p v a h f=>by unfold spAu at h;split at h;rename_i B o n k x b l t e;obtain⟨d,h⟩:=bA h;simp only[GC]at h;obtain⟨rfl,rfl,rfl⟩:=h;simp only[f',GL,GQ]at d;obtain⟨⟨⟨rfl,rfl⟩,rfl,rfl⟩,rfl⟩:=d;obtain⟨rfl,i,rfl,⟨q,m⟩,j⟩:t=[]/\l=u8v (l.map dU8)/\n=l.length/\(0<=x/\x<301)/\l.length<=10000000000:=f;have g:(l.map dU8).length=l.length:=GB _;unfold auL;generalize l.map dU8=L at*;subst i;obtain⟨y,rfl⟩:∃ y:Nat,x=y:=⟨x.toNat,by omega⟩;rw[Gz];have:=Gd L y (by omega) (by omega);rw[<-heap_u,<-EC]at this;rw[<-g];exact this;cases h
def XIk:SX:=⟨env,[(103,frmR noAr spAu)],elIk,λ_=>.unroll 0⟩
def hIk(l:LB):AH:=⟨(Nd (Nd Lf (some (.gro (u8v l) [] 5)) Lf) (some (.cells [groS 1 l.length] 38)) Lf),2⟩
def jIk(K:KV)(l:LB)(n:Int):Prop:=bc XIk 6 f36 [.pointer (some ⟨0,0,none⟩),.int .i64 n] (hIk l) K
def jIb(K:KV)(l:LB)(b:Bool):Prop:=bc XIk 6 f72 [.pointer (some ⟨0,0,none⟩),.bool b] (hIk l) K
abbrev D_:=λa=>List.map dU8 (u8v a)
theorem LT(K:KV)(l:LB)(n:Int):jIk K l n=(Sp (decide (n<0)) ((List.all [J_ 45] cellv=true/\List.length l+0=List.length (u8v l)/\List.length l+(1:Nat)<=(70368744177664:Nat)/\(List.length l+1)*(1:Nat)<=(140737488355328:Nat))/\HFs [j_ (u8v l++[J_ 45]),j_ (u8v (auL (u8v l++[J_ 45]) (IntKind.wrap .u64 (0-IntKind.wrap .u64 n))))] (PH (Prod.fst (some (([]:Lh)=[]/\u8v l++[J_ 45]=u8v (List.map dU8 (u8v l++[J_ 45]))/\List.length l+1=List.length (u8v l++[J_ 45])/\(0<=IntKind.wrap .u64 (0-IntKind.wrap .u64 n)/\IntKind.wrap .u64 (0-IntKind.wrap .u64 n)<301)/\List.length (u8v l++[J_ 45])<=10000000000),h_ 1 0 (n_ (auL (u8v l++[J_ 45]) (IntKind.wrap .u64 (0-IntKind.wrap .u64 n)))),[AObj.dead,o_ (u8v (auL (u8v l++[J_ 45]) (IntKind.wrap .u64 (0-IntKind.wrap .u64 n)))) 5])))/\(List.all [J_ 32] cellv=true/\List.length (auL (u8v l++[J_ 45]) (IntKind.wrap .u64 (0-IntKind.wrap .u64 n)))+0=List.length (u8v (auL (u8v l++[J_ 45]) (IntKind.wrap .u64 (0-IntKind.wrap .u64 n))))/\List.length (auL (u8v l++[J_ 45]) (IntKind.wrap .u64 (0-IntKind.wrap .u64 n)))+(1:Nat)<=(70368744177664:Nat)/\(List.length (auL (u8v l++[J_ 45]) (IntKind.wrap .u64 (0-IntKind.wrap .u64 n)))+1)*(1:Nat)<=(140737488355328:Nat))/\K J6 (V_ (Ns (Sg AObj.dead) AObj.dead (Sg (r_ [J_ 32] 5))) (r_ [h_ 6 0 (List.length (auL (u8v l++[J_ 45]) (IntKind.wrap .u64 (0-IntKind.wrap .u64 n)))+1)] 38) (Ns (Sg AObj.dead) (r_ [J_ 45] 5) (Sg (AObj.gro (u8v (auL (u8v l++[J_ 45]) (IntKind.wrap .u64 (0-IntKind.wrap .u64 n)))) [J_ 32] 5))) 7)) (HFs [j_ (u8v l),j_ (u8v (auL (u8v l) (IntKind.wrap .u64 n)))] (PH (Prod.fst (some (([]:Lh)=[]/\u8v l=u8v (D_ l)/\List.length l=List.length (u8v l)/\(0<=IntKind.wrap .u64 n/\IntKind.wrap .u64 n<301)/\List.length (u8v l)<=10000000000),h_ 1 0 (n_ (auL (u8v l) (IntKind.wrap .u64 n))),[AObj.dead,o_ (u8v (auL (u8v l) (IntKind.wrap .u64 n))) 5])))/\(List.all [J_ 32] cellv=true/\List.length (auL (u8v l) (IntKind.wrap .u64 n))+0=List.length (u8v (auL (u8v l) (IntKind.wrap .u64 n)))/\List.length (auL (u8v l) (IntKind.wrap .u64 n))+(1:Nat)<=(70368744177664:Nat)/\(List.length (auL (u8v l) (IntKind.wrap .u64 n))+1)*(1:Nat)<=(140737488355328:Nat))/\K J6 (V_ (Ns (Sg (r_ [J_ 32] 5)) AObj.dead Lf) (r_ [h_ 4 0 (List.length (auL (u8v l) (IntKind.wrap .u64 n))+1)] 38) (Ns (Sg (AObj.gro (u8v (auL (u8v l) (IntKind.wrap .u64 n))) [J_ 32] 5)) AObj.dead Lf) 5))):=by kernel_rfl
theorem jIk_nf:type_of%(by have h:=@LT;revert h;delta b_ h_ j_ n_ o_ r_ D_ J_ V_ J6;exact id):=@LT
theorem LU(K:KV)(l:LB)(b:Bool):jIb K l b=(Sp b ((List.all [J_ 116,J_ 114,J_ 117,J_ 101] cellv=true/\List.length l+0=List.length (u8v l)/\List.length l+(4:Nat)<=(70368744177664:Nat)/\(List.length l+4)*(1:Nat)<=(140737488355328:Nat))/\K J6 (V_ (Sg AObj.dead) (r_ [h_ 2 0 (List.length l+4)] 38) (Sg (AObj.gro (u8v l) [J_ 116,J_ 114,J_ 117,J_ 101] 5)) 3)) ((List.all [J_ 102,J_ 97,J_ 108,J_ 115,J_ 101] cellv=true/\List.length l+0=List.length (u8v l)/\List.length l+(5:Nat)<=(70368744177664:Nat)/\(List.length l+5)*(1:Nat)<=(140737488355328:Nat))/\K J6 (V_ (Sg AObj.dead) (r_ [h_ 2 0 (List.length l+5)] 38) (Sg (AObj.gro (u8v l) [J_ 102,J_ 97,J_ 108,J_ 115,J_ 101] 5)) 3))):=by kernel_rfl
theorem jIb_nf:type_of%(by have h:=@LU;revert h;delta b_ h_ r_ J_ V_ J6;exact id):=@LU
def ikT(l:LB)(n:Nat):LB:=(l++tD n)++[32]
def boT(b:Bool):LB:=match b with|true=>[116,114,117,101]|false=>[102,97,108,115,101]
def hIkE(l:LB):AH:=⟨(Nd (Nd Lf (some (.dead)) Lf) (some (.cells [groS 2 l.length] 38)) (Nd Lf (some (.gro (u8v l) [] 5)) Lf)),3⟩
theorem end_ik(Q:Value->AH->Prop)(l:LB)(els c t:Lh)(n:Nat):endF env (hIk l) [] [] [] Q (.tuple ⟨[]⟩) ⟨(.node (.node (.node .leaf (some (.cells c 5)) .leaf) (some (.dead)) .leaf) (some (.cells [groS 4 n] 38)) (.node (.node .leaf (some (.gro els t 5)) .leaf) (some (.dead)) .leaf)),5⟩=(HF (.agg ⟨glue els t⟩)/\Q (.tuple ⟨[]⟩) ⟨(.node (.node .leaf (some (.dead)) .leaf) (some (.cells [groS 2 n] 38)) (.node .leaf (some (.gro (glue els t) [] 5)) .leaf)),3⟩):=by kernel_rfl
theorem end_ib(Q:Value->AH->Prop)(l:LB)(els t:Lh)(n:Nat):endF env (hIk l) [] [] [] Q (.tuple ⟨[]⟩) ⟨(.node (.node .leaf (some (.dead)) .leaf) (some (.cells [groS 2 n] 38)) (.node .leaf (some (.gro els t 5)) .leaf)),3⟩=(HF (.agg ⟨glue els t⟩)/\Q (.tuple ⟨[]⟩) ⟨(.node (.node .leaf (some (.dead)) .leaf) (some (.cells [groS 2 n] 38)) (.node .leaf (some (.gro (glue els t) [] 5)) .leaf)),3⟩):=by kernel_rfl
theorem BK:XIk.Ok:=⟨ak,aA,an,.cons au_tab .nil⟩
theorem auL_u(l:LB)(x:Nat):auL (u8v l) (x:Int)=l++tD x:=by unfold auL;rw[lU,Gz]
theorem Ao(n:Nat):(tD n).length<=3:=by unfold tD;split<;>(try split)<;>simp
theorem Ew(l:LB)(n:Nat)(g:n<301)(h:l.length<=1000000000):WalkF env f36 [.pointer (some ⟨0,0,none⟩),.int .i64 (n:Int)] (hIk l) (.tuple ⟨[]⟩) (hIkE (ikT l n)):=by
 have b:(u8v l).length=l.length:=GB _;have w:IntKind.wrap .u64 (n:Int)=n:=u64_in (by omega) (by omega);have j:=Ao n;have i:(l++tD n).length=l.length+(tD n).length:=Gx;have a:∀ (T:LB) (c:Lh),endF env (hIk l) [] [] [] (λv1 f=>v1=.tuple ⟨[]⟩/\f=hIkE (T++[32])) (.tuple ⟨[]⟩) ⟨(.node (.node (.node .leaf (some (.cells c 5)) .leaf) (some (.dead)) .leaf) (some (.cells [groS 4 (T.length+1)] 38)) (.node (.node .leaf (some (.gro (u8v T) (u8v [32]) 5)) .leaf) (some (.dead)) .leaf)),5⟩:=λT c=>by refine(end_ik _ l (u8v T) c (u8v [32]) _).mpr ?_;rw[cb,<-fX];refine⟨be _,rfl,?_⟩;unfold hIkE;rw[Gx];rfl
 refine aq BK (d:=6) (ns:=[]) (zs:=[]) (ws:=[]) ((jIk_nf _ l (n:Int)).mpr (Sp.intro (λq=>absurd (odt q) (by omega)) (λq=>?_)));rw[w,auL_u];unfold ikT;have a:=a (l++tD n);generalize l++tD n=T at*;have e:(u8v T).length=T.length:=GB _;refine⟨⟨be _,be _,⟨rfl,by rw[lU],by rw[b],⟨by omega,by omega⟩,by omega⟩⟩,⟨rfl,by rw[e,Ht],by omega,by omega⟩,a _⟩
theorem EB(l:LB)(b:Bool)(g:l.length<=1000000000):WalkF env f72 [.pointer (some ⟨0,0,none⟩),.bool b] (hIk l) (.tuple ⟨[]⟩) (hIkE (l++boT b)):=by
 have a:(u8v l).length=l.length:=GB _;have c:∀ r:LB,endF env (hIk l) [] [] [] (λv1 f=>v1=.tuple ⟨[]⟩/\f=hIkE (l++r)) (.tuple ⟨[]⟩) ⟨(.node (.node .leaf (some (.dead)) .leaf) (some (.cells [groS 2 (l.length+r.length)] 38)) (.node .leaf (some (.gro (u8v l) (u8v r) 5)) .leaf)),3⟩:=λr=>by refine(end_ib _ l (u8v l) (u8v r) _).mpr ?_;rw[cb,<-fX];refine⟨be _,rfl,?_⟩;unfold hIkE;rw[Gx]
 refine aq BK (d:=6) (ns:=[]) (zs:=[]) (ws:=[]) ((jIb_nf _ l b).mpr (Sp.intro (λq=>?_) (λq=>?_)));subst q;have e:=c [116,114,117,101];exact⟨⟨rfl,by rw[a,Ht],by omega,by omega⟩,e⟩;subst q;have e:=c [102,97,108,115,101];exact⟨⟨rfl,by rw[a,Ht],by omega,by omega⟩,e⟩
def spIk:Lh->List AObj->Option (Ll×Value×List AObj)
 | [.pointer (some ⟨B,o,none⟩),.int .i64 n],[.cells [.slice (some ⟨B1,o1,none⟩) n1 k1] e0,.gro l t e]=>
   bif ((Nat.beq B 0&&Nat.beq o 0)&&(Nat.beq B1 1&&Nat.beq o1 0))&&(Nat.beq k1 (unk+3+1)&&(Nat.beq e0 38&&Nat.beq e 5))then
    some (some ((t=[]/\l=u8v (l.map dU8)/\n1=l.length)/\(0<=n/\n<301)/\l.length<=1000000000),.tuple ⟨[]⟩,[.cells [groS 2 (ikT (l.map dU8) n.toNat).length] e0,.dead,.gro (u8v (ikT (l.map dU8) n.toNat)) [] e])else none
 |_,_=>none
def spIb:Lh->List AObj->Option (Ll×Value×List AObj)
 | [.pointer (some ⟨B,o,none⟩),.bool b],[.cells [.slice (some ⟨B1,o1,none⟩) n1 k1] e0,.gro l t e]=>
   bif ((Nat.beq B 0&&Nat.beq o 0)&&(Nat.beq B1 1&&Nat.beq o1 0))&&(Nat.beq k1 (unk+3+1)&&(Nat.beq e0 38&&Nat.beq e 5))then
    some (some ((t=[]/\l=u8v (l.map dU8)/\n1=l.length)/\l.length<=1000000000),.tuple ⟨[]⟩,[.cells [groS 2 ((l.map dU8)++boT b).length] e0,.dead,.gro (u8v ((l.map dU8)++boT b)) [] e])else none
 |_,_=>none
theorem kh(l:LB):aS [.cells [groS 1 l.length] 38,.gro (u8v l) [] 5]=hIk l:=by kernel_rfl
theorem gQ(l:LB):aS [.cells [groS 2 l.length] 38,.dead,.gro (u8v l) [] 5]=hIkE l:=by kernel_rfl
theorem rO:∀ args A p v A',frmR noAr spIk args A=some (p,v,A')->PH p->CallAt env 36 args A v A':=aY ak (fn:=f36) rfl λargs b p v a h f=>by unfold spIk at h;split at h;rename_i B o n u j d k s l t e;obtain⟨c,h⟩:=bA h;simp only[GC]at h;obtain⟨rfl,rfl,rfl⟩:=h;simp only[f',GL]at c;obtain⟨⟨⟨rfl,rfl⟩,rfl,rfl⟩,rfl,rfl,rfl⟩:=c;obtain⟨⟨rfl,i,rfl⟩,⟨r,q⟩,m⟩:(t=[]/\l=u8v (l.map dU8)/\d=l.length)/\(0<=n/\n<301)/\l.length<=1000000000:=f;have g:(l.map dU8).length=l.length:=GB _;generalize l.map dU8=L at*;subst i;obtain⟨y,rfl⟩:∃ y:Nat,n=y:=⟨n.toNat,by omega⟩;rw[Gz];have:=Ew L y (by omega) (by omega);rw[<-kh,<-gQ]at this;rw[<-g];exact this;cases h
theorem ib_tab:∀ args A p v A',frmR noAr spIb args A=some (p,v,A')->PH p->CallAt env 72 args A v A':=aY ak (fn:=f72) rfl λargs c p v a h g=>by unfold spIb at h;split at h;rename_i B o b r k f m q l t e;obtain⟨d,h⟩:=bA h;simp only[GC]at h;obtain⟨rfl,rfl,rfl⟩:=h;simp only[f',GL]at d;obtain⟨⟨⟨rfl,rfl⟩,rfl,rfl⟩,rfl,rfl,rfl⟩:=d;obtain⟨⟨rfl,j,rfl⟩,n⟩:(t=[]/\l=u8v (l.map dU8)/\f=l.length)/\l.length<=1000000000:=g;have i:(l.map dU8).length=l.length:=GB _;generalize l.map dU8=L at*;subst j;have:=EB L b (by omega);rw[<-kh,<-gQ]at this;rw[<-i];exact this;cases h
def elBs:El:={elT [] [18]with app:=true,gm:=λ_=>true}
def XBs:SX:=⟨env,[(36,frmR noAr spIk),(72,frmR noAr spIb)],elBs,λ_=>.autoN [] [] [] [0,1,4]⟩
def elIs:El:={elT [] []with app:=true,gm:=λ_=>true}
def XIs:SX:=⟨env,[(36,frmR noAr spIk)],elIs,λ_=>.autoN [] [] [] [0,1,4]⟩
def frBs(v:Value)(i:Nat):T Value:=(Nd (Nd Lf (some (v)) Lf) (some (.pointer (some ⟨0,0,none⟩))) (Nd (Nd Lf (some (.int .i64 i)) Lf) none Lf))
noncomputable def nBs:Nat:=Func.ntmps f37
noncomputable def bBs:Code:=au f37
noncomputable def nIs:Nat:=Func.ntmps f38
noncomputable def bIs:Code:=au f38
def kFinBs(K:KV):KX:=finK env (f37.results).toList K
def kFinIs(K:KV):KX:=finK env (f38.results).toList K
def jBs(K:KV)(l:LB)(bs:Li):Prop:=bc XBs 2 f37 [.pointer (some ⟨0,0,none⟩),dat 1 (blV bs)] (hIk l) K
def jBsL(K:KV)(again:KF)(l0 l:LB)(bs:Li)(i:Nat):Prop:=bh XBs 2 nBs (hIk l0) bBs [1,1,0] (kFinBs K) [] [] [] [0,1,4] again (frBs (dat 1 (blV bs)) i) (hIkE l)
def jIs(K:KV)(l:LB)(r:Le):Prop:=bc XIs 2 f38 [.pointer (some ⟨0,0,none⟩),dat 1 (inV r)] (hIk l) K
def jIsL(K:KV)(again:KF)(l0 l:LB)(r:Le)(i:Nat):Prop:=bh XIs 2 nIs (hIk l0) bIs [1,1,0] (kFinIs K) [] [] [] [0,1,4] again (frBs (dat 1 (inV r)) i) (hIkE l)
abbrev Kd:=λa b=>ikT (D_ a) (v_ b)
theorem LW(K:KV)(l:LB)(bs:Li):jBs K l bs=(HFs [j_ (u8v l),j_ (u8v (Kd l (p_ (blV bs))))] (PH (Prod.fst (some ((([]:Lh)=[]/\u8v l=u8v (D_ l)/\List.length l=List.length (u8v l))/\(0<=p_ (blV bs)/\p_ (blV bs)<301)/\List.length (u8v l)<=1000000000),J6,[r_ [h_ 2 0 (n_ (Kd l (p_ (blV bs))))] 38,AObj.dead,o_ (u8v (Kd l (p_ (blV bs)))) 5])))/\HF (O_ bs)/\l_ (u8v (Kd l (p_ (blV bs))))/\LAtZ XBs 2 f37.ntmps (hIk l) (au f37) [1,1,0] (finK (SX.E XBs) f37.results.toList K) (Ns (Sg (O_ bs)) m_ (I_ (Vi 0))) (V_ (Sg AObj.dead) (r_ [h_ 2 0 (n_ (Kd l (p_ (blV bs))))] 38) (Sg (o_ (u8v (Kd l (p_ (blV bs)))) 5)) 3)):=by kernel_rfl
theorem jBs_nf:type_of%(by have h:=@LW;revert h;delta b_ h_ j_ l_ m_ n_ o_ p_ r_ v_ D_ I_ O_ V_ J6 Kd;exact id):=@LW
theorem LX(K:KV)(again:KF)(l0:LB)(l:LB)(bs:Li)(i:Nat):jBsL K again l0 l bs i=(Sp (decide ((i:Int)<p_ (blV bs))) ((0<=(i:Int)/\(i:Int)<p_ (blV bs))/\nth (blV bs) i=some (Value.bool (aH (blV bs) i))/\HFs [j_ (u8v l),j_ (u8v (List.map dU8 (u8v l)++boT (aH (blV bs) i)))] (PH (Prod.fst (some ((([]:Lh)=[]/\u8v l=u8v (D_ l)/\List.length l=List.length (u8v l))/\List.length (u8v l)<=1000000000),J6,[r_ [h_ 2 0 (n_ (List.map dU8 (u8v l)++boT (aH (blV bs) i)))] 38,AObj.dead,o_ (u8v (List.map dU8 (u8v l)++boT (aH (blV bs) i))) 5])))/\HF (O_ bs)/\l_ (u8v (List.map dU8 (u8v l)++boT (aH (blV bs) i)))/\again (Ns (Sg (O_ bs)) m_ (No (z_ ((i:Int)+1)) Lf)) (V_ (Sg AObj.dead) (r_ [h_ 2 0 (n_ (List.map dU8 (u8v l)++boT (aH (blV bs) i)))] 38) (Sg (o_ (u8v (List.map dU8 (u8v l)++boT (aH (blV bs) i))) 5)) 3)) (K J6 (V_ (Sg AObj.dead) (r_ [h_ 2 0 (n_ l)] 38) (Sg (o_ (u8v l) 5)) 3))):=by kernel_rfl
theorem D6:type_of%(by have h:=@LX;revert h;delta b_ h_ j_ l_ m_ n_ o_ p_ r_ z_ D_ O_ V_ J6;exact id):=@LX
theorem LY(K:KV)(l:LB)(r:Le):jIs K l r=(HFs [j_ (u8v l),j_ (u8v (Kd l (p_ (inV r))))] (PH (Prod.fst (some ((([]:Lh)=[]/\u8v l=u8v (D_ l)/\List.length l=List.length (u8v l))/\(0<=p_ (inV r)/\p_ (inV r)<301)/\List.length (u8v l)<=1000000000),J6,[r_ [h_ 2 0 (n_ (Kd l (p_ (inV r))))] 38,AObj.dead,o_ (u8v (Kd l (p_ (inV r)))) 5])))/\HF (Vd 1 (inV r))/\l_ (u8v (Kd l (p_ (inV r))))/\LAtZ XIs 2 f38.ntmps (hIk l) (au f38) [1,1,0] (finK (SX.E XIs) f38.results.toList K) (Ns (Sg (Vd 1 (inV r))) m_ (I_ (Vi 0))) (V_ (Sg AObj.dead) (r_ [h_ 2 0 (n_ (Kd l (p_ (inV r))))] 38) (Sg (o_ (u8v (Kd l (p_ (inV r)))) 5)) 3)):=by kernel_rfl
theorem jIs_nf:type_of%(by have h:=@LY;revert h;delta b_ h_ j_ l_ m_ n_ o_ p_ r_ v_ D_ I_ V_ J6 Kd;exact id):=@LY
theorem LZ(K:KV)(again:KF)(l0:LB)(l:LB)(r:Le)(i:Nat):jIsL K again l0 l r i=(Sp (decide ((i:Int)<p_ (inV r))) ((0<=(i:Int)/\(i:Int)<p_ (inV r))/\nth (inV r) i=some (Vi (aa (inV r) i))/\HFs [j_ (u8v l),j_ (u8v (ikT (D_ l) (U' r i)))] (PH (Prod.fst (some ((([]:Lh)=[]/\u8v l=u8v (D_ l)/\List.length l=List.length (u8v l))/\(0<=aa (inV r) i/\aa (inV r) (i:Int)<301)/\List.length (u8v l)<=1000000000),J6,[r_ [h_ 2 0 (n_ (ikT (D_ l) (U' r i)))] 38,AObj.dead,o_ (u8v (ikT (D_ l) (U' r i))) 5])))/\HF (Vd 1 (inV r))/\l_ (u8v (ikT (D_ l) (U' r i)))/\again (Ns (Sg (Vd 1 (inV r))) m_ (No (z_ ((i:Int)+1)) Lf)) (V_ (Sg AObj.dead) (r_ [h_ 2 0 (n_ (ikT (D_ l) (U' r i)))] 38) (Sg (o_ (u8v (ikT (D_ l) (U' r i))) 5)) 3)) (K J6 (V_ (Sg AObj.dead) (r_ [h_ 2 0 (n_ l)] 38) (Sg (o_ (u8v l) 5)) 3))):=by kernel_rfl
theorem DK:type_of%(by have h:=@LZ;revert h;delta b_ h_ j_ l_ m_ n_ o_ p_ r_ v_ z_ D_ V_ U' J6;exact id):=@LZ
def bsT(l:LB)(bs:Li):LB:=bs.foldl (λt b=>t++boT b) (ikT l bs.length)
def isT(l:LB)(r:Lg):LB:=r.foldl ikT (ikT l r.length)
theorem dW(l:LB)(n:Nat):(ikT l n).length<=l.length+4:=by have:=Ao n;unfold ikT;rw[Gx,Gx];simp;omega
theorem F5(b:Bool):(boT b).length<=5:=by cases b<;>simp[boT]
theorem qc:∀ (a:Li) (t:LB),(a.foldl (λt b=>t++boT b) t).length<=t.length+5*a.length
 | [],t=>by simp
 |b::a,t=>by have:=qc a (t++boT b);have h:=F5 b;rw[Gx]at this;simp only[Jt,GY];omega
theorem qb:∀ (r:Lg) (t:LB),(r.foldl ikT t).length<=t.length+4*r.length
 | [],t=>by simp
 |x::r,t=>by have:=qb r (ikT t x);have h:=dW t x;simp only[Jt,GY];omega
theorem p9{b a :Type}(f: a -> b -> a)(t: a){l:List b}{i:Nat}(h:i<l.length):(l.take (i+1)).foldl f t=f ((l.take i).foldl f t) l[i]:=by rw[Hd h,List.foldl_append];rfl
theorem Bt(Q:Value->AH->Prop)(a l:LB):endF env (hIk a) [] [] [] Q (.tuple ⟨[]⟩) (hIkE l)=(HF (.agg ⟨u8v l⟩)/\Q (.tuple ⟨[]⟩) (hIkE l)):=by kernel_rfl
theorem BP:XBs.Ok:=⟨ak,aA,an,.cons rO (.cons ib_tab .nil)⟩
theorem BJ:XIs.Ok:=⟨ak,aA,an,.cons rO .nil⟩
theorem FW(l:LB)(a:Li)(w:a.length<=300)(u:l.length<=500000000):WalkF env f37 [.pointer (some ⟨0,0,none⟩),dat 1 (blV a)] (hIk l) (.tuple ⟨[]⟩) (hIkE (bsT l a)):=by
 have j:(u8v l).length=l.length:=GB _;have q:=bp a;refine aq BP (d:=2) (ns:=[]) (zs:=[]) (ws:=[]) ((jBs_nf _ l a).mpr ?_);rw[lU,q,Gz];refine⟨⟨be _,be _,⟨⟨rfl,rfl,by rw[j]⟩,⟨by omega,by omega⟩,by omega⟩⟩,.dat (aG _),be _,?_⟩;have v:=dW l a.length;unfold bsT;generalize ikT l a.length=t0 at*;refine LAtZ.stepF BP [] [] [] [0,1,4] (by kernel_rfl) (λm G A=>∃ i:Nat,G=frBs (dat 1 (blV a)) i/\A=hIkE ((a.take i).foldl (λt b=>t++boT b) t0)/\i+m=a.length) ?_ (k:=a.length) ⟨0,rfl,rfl,by omega⟩;rintro m G A ⟨i,rfl,rfl,s⟩;have p:=qc (a.take i) t0;rw[Hh]at p;have g:i=a.length->(a.take i).foldl (λt b=>t++boT b) t0=a.foldl (λt b=>t++boT b) t0:=λe=>by rw[e,Hm]
 have n:=λh=>p9 (λ(t:LB) b=>t++boT b) t0 (l:=a) (i:=i) h;generalize r:(a.take i).foldl (λt b=>t++boT b) t0=l2 at*;have f:(u8v l2).length=l2.length:=GB _;refine(D6 _ _ l l2 a i).mpr (Sp.intro (λc=>?_) (λc=>?_));have c:=odt c;have o:i<a.length:=by omega
 rw[cv o,lU,aM (x:=(i:Int)+1) (by omega) (by omega)];refine⟨⟨by omega,by omega⟩,fR o,⟨be _,be _,⟨⟨rfl,rfl,by rw[f]⟩,by omega⟩⟩,.dat (aG _),be _,m-1,by omega,i+1,rfl,?_,by omega⟩;rw[n o];rfl;have c:=odf c;rw[<-g (by omega)];exact(Bt _ l l2).mpr ⟨be _,rfl,rfl⟩
theorem Ep(l:LB)(r:Lg)(t:∀ x∈r,x<301)(B:r.length<=300)(y:l.length<=500000000):WalkF env f38 [.pointer (some ⟨0,0,none⟩),dat 1 (inV (inF r))] (hIk l) (.tuple ⟨[]⟩) (hIkE (isT l r)):=by
 have j:(u8v l).length=l.length:=GB _;have p:(inV (inF r)).length=r.length:=by rw[aj,aw]
 have s:=aw r;refine aq BJ (d:=2) (ns:=[]) (zs:=[]) (ws:=[]) ((jIs_nf _ l (inF r)).mpr ?_);rw[lU,p,Gz];refine⟨⟨be _,be _,⟨⟨rfl,rfl,by rw[j]⟩,⟨by omega,by omega⟩,by omega⟩⟩,.dat (pi _),be _,?_⟩;have z:=dW l r.length;unfold isT;generalize ikT l r.length=t0 at*;refine LAtZ.stepF BJ [] [] [] [0,1,4] (by kernel_rfl) (λm G A=>∃ i:Nat,G=frBs (dat 1 (inV (inF r))) i/\A=hIkE ((r.take i).foldl ikT t0)/\i+m=r.length) ?_ (k:=r.length) ⟨0,rfl,rfl,by omega⟩;rintro m G A ⟨i,rfl,rfl,v⟩;have o:=qb (r.take i) t0;rw[Hh]at o;have f:i=r.length->(r.take i).foldl ikT t0=r.foldl ikT t0:=λe=>by rw[e,Hm]
 have n:=λh=>p9 ikT t0 (l:=r) (i:=i) h;generalize u:(r.take i).foldl ikT t0=l2 at*;have a:(u8v l2).length=l2.length:=GB _;refine(DK _ _ l l2 (inF r) i).mpr (Sp.intro (λc=>?_) (λc=>?_));have c:=odt c;have g:i<r.length:=by omega
 have b:i<(inF r).length:=by omega
 have w:=t _ (GH g);have q:nth (inV (inF r)) i=some (Vi (r[i]:Nat)):=by rw[bi b,eE g]
 rw[aK b,eE g,lU,Gz,aM (x:=(i:Int)+1) (by omega) (by omega)];refine⟨⟨by omega,by omega⟩,q,⟨be _,be _,⟨⟨rfl,rfl,by rw[a]⟩,⟨by omega,by omega⟩,by omega⟩⟩,.dat (pi _),be _,m-1,by omega,i+1,rfl,?_,by omega⟩;rw[n g];rfl;have c:=odf c;rw[<-f (by omega)];exact(Bt _ l l2).mpr ⟨be _,rfl,rfl⟩
def spBs:Lh->List AObj->Option (Ll×Value×List AObj)
 | [.pointer (some ⟨B,o,none⟩),.func (.yield sz) ⟨bs⟩ ⟨[]⟩],[.cells [.slice (some ⟨B1,o1,none⟩) n1 k1] e0,.gro l t e]=>
   bif ((Nat.beq B 0&&Nat.beq o 0)&&(Nat.beq B1 1&&Nat.beq o1 0))&&((Nat.beq sz 1&&Nat.beq k1 (unk+3+1))&&(Nat.beq e0 38&&Nat.beq e 5))then
    some (some ((t=[]/\l=u8v (l.map dU8)/\n1=l.length)/\(bs=blV (bs.map deB)/\bs.length<=300)/\l.length<=500000000),.tuple ⟨[]⟩,[.cells [groS 2 (bsT (l.map dU8) (bs.map deB)).length] e0,.dead,.gro (u8v (bsT (l.map dU8) (bs.map deB))) [] e])else none
 |_,_=>none
def spIs:Lh->List AObj->Option (Ll×Value×List AObj)
 | [.pointer (some ⟨B,o,none⟩),.func (.yield sz) ⟨r⟩ ⟨[]⟩],[.cells [.slice (some ⟨B1,o1,none⟩) n1 k1] e0,.gro l t e]=>
   bif ((Nat.beq B 0&&Nat.beq o 0)&&(Nat.beq B1 1&&Nat.beq o1 0))&&((Nat.beq sz 1&&Nat.beq k1 (unk+3+1))&&(Nat.beq e0 38&&Nat.beq e 5))then
    some (some ((t=[]/\l=u8v (l.map dU8)/\n1=l.length)/\(r=inV (inF (toN r))/\(∀x∈toN r,x<301)/\(toN r).length<=300)/\l.length<=500000000),.tuple ⟨[]⟩,[.cells [groS 2 (isT (l.map dU8) (toN r)).length] e0,.dead,.gro (u8v (isT (l.map dU8) (toN r))) [] e])else none
 |_,_=>none
theorem bs_tab:∀ args A p v A',frmR noAr spBs args A=some (p,v,A')->PH p->CallAt env 37 args A v A':=aY ak (fn:=f37) rfl λargs c p v b h g=>by unfold spBs at h;split at h;rename_i B o m a x n f q w l t e;obtain⟨d,h⟩:=bA h;simp only[GC]at h;obtain⟨rfl,rfl,rfl⟩:=h;simp only[f',GL]at d;obtain⟨⟨⟨rfl,rfl⟩,rfl,rfl⟩,⟨rfl,rfl⟩,rfl,rfl⟩:=d;obtain⟨⟨rfl,k,rfl⟩,⟨j,u⟩,s⟩:(t=[]/\l=u8v (l.map dU8)/\f=l.length)/\(a=blV (a.map deB)/\a.length<=300)/\l.length<=500000000:=g;have i:(l.map dU8).length=l.length:=GB _;have r:(a.map deB).length=a.length:=GB _;generalize l.map dU8=L at*;generalize a.map deB=D at*;subst k;subst j;have:=FW L D (by omega) (by omega);rw[<-kh,<-gQ]at this;rw[<-i];exact this;cases h
theorem is_tab:∀ args A p v A',frmR noAr spIs args A=some (p,v,A')->PH p->CallAt env 38 args A v A':=aY ak (fn:=f38) rfl λargs b p v a h f=>by unfold spIs at h;split at h;rename_i B o n r y q d s w l t e;obtain⟨c,h⟩:=bA h;simp only[GC]at h;obtain⟨rfl,rfl,rfl⟩:=h;simp only[f',GL]at c;obtain⟨⟨⟨rfl,rfl⟩,rfl,rfl⟩,⟨rfl,rfl⟩,rfl,rfl⟩:=c;obtain⟨⟨rfl,m,rfl⟩,⟨k,j,i⟩,u⟩:(t=[]/\l=u8v (l.map dU8)/\d=l.length)/\(r=inV (inF (toN r))/\(∀x∈toN r,x<301)/\(toN r).length<=300)/\l.length<=500000000:=f;have g:(l.map dU8).length=l.length:=GB _;generalize l.map dU8=L at*;generalize toN r=D at*;subst m;subst k;have:=Ep L D j i (by omega);rw[<-kh,<-gQ]at this;rw[<-g];exact this;cases h
def elAt:El:={elT [29] []with app:=true,gm:=λ_=>true}
def XAt:SX:=⟨env,[(36,frmR noAr spIk),(37,frmR noAr spBs),(38,frmR noAr spIs)],elAt,λ_=>.autoN [] [] [] [0,3,4]⟩
noncomputable def nAt:Nat:=Func.ntmps f16
noncomputable def bAt:Code:=au f16
def kFinAt(K:KV):KX:=finK env (f16.results).toList K
def frAt(i:Nat):T Value:=(Nd (Nd (Nd Lf (some (.pointer (some ⟨2,0,none⟩))) Lf) none Lf) (some (.pointer (some ⟨0,0,none⟩))) (Nd (Nd Lf (some (.int .i64 i)) Lf) none Lf))
def hAt(l:LB)(s:Int)(acc:Li)(nx:La):AH:=⟨(Nd (Nd (Nd Lf (some (.gro (u8v l) [] 5)) Lf) (some (.dead)) Lf) (some (.cells [groS 3 l.length] 38)) (Nd Lf (some (auC s acc nx)) Lf)),4⟩
def jAt(K:KV)(l:LB)(s:Int)(acc:Li)(nx:La):Prop:=bc XAt 2 f16 [.pointer (some ⟨0,0,none⟩),.agg ⟨[.int .i64 s,dat 1 (blV acc),dat 1 (roV nx)]⟩] (hIk l) K
def jAtL(K:KV)(again:KF)(l0 l:LB)(s:Int)(acc:Li)(nx:La)(i:Nat):Prop:=bh XAt 2 nAt (hIk l0) bAt [1,1,1,1,1,0] (kFinAt K) [] [] [] [0,3,4] again (frAt i) (hAt l s acc nx)
theorem L0(K:KV)(l:LB)(s:Int)(acc:Li)(nx:La):jAt K l s acc nx=(HFs [j_ (u8v l),j_ (u8v (Kd l s))] (PH (Prod.fst (some ((([]:Lh)=[]/\u8v l=u8v (D_ l)/\List.length l=List.length (u8v l))/\(0<=s/\s<301)/\List.length (u8v l)<=1000000000),J6,[r_ [h_ 2 0 (n_ (Kd l s))] 38,AObj.dead,o_ (u8v (Kd l s)) 5])))/\HFs [O_ acc,j_ (u8v (Kd l s)),j_ (u8v (bsT (D_ (Kd l s)) (g_ acc)))] (PH (Prod.fst (some ((([]:Lh)=[]/\u8v (Kd l s)=u8v (D_ (Kd l s))/\List.length (Kd l s)=List.length (u8v (Kd l s)))/\(blV acc=blV (g_ acc)/\List.length (blV acc)<=300)/\List.length (u8v (Kd l s))<=500000000),J6,[r_ [h_ 2 0 (n_ (bsT (D_ (Kd l s)) (g_ acc)))] 38,AObj.dead,o_ (u8v (bsT (D_ (Kd l s)) (g_ acc))) 5])))/\HFs [j_ (u8v (bsT (D_ (Kd l s)) (g_ acc))),j_ (u8v (Kd (bsT (D_ (Kd l s)) (g_ acc)) (p_ (roV nx))))] (PH (Prod.fst (some ((([]:Lh)=[]/\u8v (bsT (D_ (Kd l s)) (g_ acc))=u8v (D_ (bsT (D_ (Kd l s)) (g_ acc)))/\List.length (bsT (D_ (Kd l s)) (g_ acc))=List.length (u8v (bsT (D_ (Kd l s)) (g_ acc))))/\(0<=p_ (roV nx)/\p_ (roV nx)<301)/\List.length (u8v (bsT (D_ (Kd l s)) (g_ acc)))<=1000000000),J6,[r_ [h_ 2 0 (n_ (Kd (bsT (D_ (Kd l s)) (g_ acc)) (p_ (roV nx))))] 38,AObj.dead,o_ (u8v (Kd (bsT (D_ (Kd l s)) (g_ acc)) (p_ (roV nx)))) 5])))/\HF (O_ acc)/\HF (E_ nx)/\l_ (u8v (Kd (bsT (D_ (Kd l s)) (g_ acc)) (p_ (roV nx))))/\LAtZ XAt 2 f16.ntmps (hIk l) (au f16) [1,1,1,1,1,0] (finK (SX.E XAt) f16.results.toList K) (Ns (I_ (f_ 2 0)) m_ (I_ (Vi 0))) (V_ (Ns (Sg (o_ (u8v (Kd (bsT (D_ (Kd l s)) (g_ acc)) (p_ (roV nx)))) 5)) AObj.dead Lf) (r_ [h_ 3 0 (n_ (Kd (bsT (D_ (Kd l s)) (g_ acc)) (p_ (roV nx))))] 38) (Sg (k_ s acc nx)) 4)):=by kernel_rfl
theorem jAt_nf:type_of%(by have h:=@L0;revert h;delta b_ f_ g_ h_ j_ k_ l_ m_ n_ o_ p_ r_ v_ D_ E_ I_ O_ V_ J6 Kd;exact id):=@L0
theorem L1(K:KV)(again:KF)(l0:LB)(l:LB)(s:Int)(acc:Li)(nx:La)(i:Nat):jAtL K again l0 l s acc nx i=(Sp (decide ((i:Int)<p_ (roV nx))) ((0<=(i:Int)/\(i:Int)<p_ (roV nx))/\nth (roV nx) i=some (Vd 1 (ah (roV nx) i))/\HFs [Vd 1 (ah (roV nx) i),j_ (u8v l),j_ (u8v (isT (D_ l) (toN (ah (roV nx) i))))] (PH (Prod.fst (some ((([]:Lh)=[]/\u8v l=u8v (D_ l)/\List.length l=List.length (u8v l))/\(ah (roV nx) (i:Int)=inV (inF (toN (ah (roV nx) i)))/\(∀(x:Nat),x∈toN (ah (roV nx) i)->x<301)/\List.length (toN (ah (roV nx) i))<=300)/\List.length (u8v l)<=500000000),J6,[r_ [h_ 2 0 (n_ (isT (D_ l) (toN (ah (roV nx) i))))] 38,AObj.dead,o_ (u8v (isT (D_ l) (toN (ah (roV nx) i)))) 5])))/\HF (O_ acc)/\HF (E_ nx)/\l_ (u8v (isT (D_ l) (toN (ah (roV nx) i))))/\again (Ns (I_ (f_ 2 0)) m_ (No (z_ ((i:Int)+1)) Lf)) (V_ (Ns (Sg (o_ (u8v (isT (D_ l) (toN (ah (roV nx) i)))) 5)) AObj.dead Lf) (r_ [h_ 3 0 (n_ (isT (D_ l) (toN (ah (roV nx) i))))] 38) (Sg (k_ s acc nx)) 4)) (K J6 (V_ (Ns (Sg (o_ (u8v l) 5)) AObj.dead Lf) (r_ [h_ 3 0 (n_ l)] 38) (Sg (k_ s acc nx)) 4))):=by kernel_rfl
theorem Ea:type_of%(by have h:=@L1;revert h;delta b_ f_ h_ j_ k_ l_ m_ n_ o_ p_ r_ z_ D_ E_ I_ O_ V_ J6;exact id):=@L1
structure TOk (a:AU):Prop where
 s:0<=a.1/\a.1<301
 acc:a.2.1.length<=300
 nx:a.2.2.length<=300
 row:∀ r∈a.2.2,r.length<=300/\∀ x∈r,0<=x/\x<301
def rwT(t:LB)(r:Le):LB:=isT t (r.map Int.toNat)
def auT(l:LB)(a:AU):LB:=a.2.2.foldl rwT (ikT (bsT (ikT l a.1.toNat) a.2.1) a.2.2.length)
theorem B8(r:Le):toN (inV r)=r.map Int.toNat:=by unfold toN;rw[cY]
theorem Ev{r:Le}(h:∀ x∈r,0<=x):inF (r.map Int.toNat)=r:=by
 unfold inF;rw[Hl];conv=>rhs;rw[<-Il r]
 refine Ha λx a=>?_;have:=h x a;show((x.toNat:Nat):Int)=x;omega
theorem CQ(t:LB){r:Le}(h:r.length<=300):(rwT t r).length<=t.length+1300:=by unfold rwT isT;have c:=qb (r.map Int.toNat) (ikT t (r.map Int.toNat).length);have b:=dW t (r.map Int.toNat).length;have a:(r.map Int.toNat).length=r.length:=GB _;omega
theorem qa:∀ (nx:La) (t:LB),(∀r∈nx,r.length<=300)->(nx.foldl rwT t).length<=t.length+1300*nx.length
 | [],t,_=>by simp
 |r::nx,t,h=>by have c:=qa nx (rwT t r) λx a=>h x (GS _ a);have b:=CQ t (h r GU);simp only[Jt,GY];omega
theorem xC(l:LB)(a:Li):(bsT l a).length<=l.length+4+5*a.length:=by have c:=qc a (ikT l a.length);have b:=dW l a.length;unfold bsT;omega
theorem BR:XAt.Ok:=⟨ak,aA,an,.cons rO (.cons bs_tab (.cons is_tab .nil))⟩
theorem end_at(Q:Value->AH->Prop)(a l:LB)(s:Int)(acc:Li)(nx:La):endF env (hIk a) [] [] [] Q (.tuple ⟨[]⟩) (hAt l s acc nx)=(HF (.agg ⟨u8v l⟩)/\Q (.tuple ⟨[]⟩) (hIkE l)):=by kernel_rfl
theorem Ge(l:LB){a:AU}(h:TOk a)(L:l.length<=1000):WalkF env f16 [.pointer (some ⟨0,0,none⟩),auV a] (hIk l) (.tuple ⟨[]⟩) (hIkE (auT l a)):=by
 obtain⟨s,f,b⟩:=a;obtain⟨w,F,D,q⟩:=h;dsimp only at w F D q;unfold auT;dsimp only;have n:∀ T:LB,(u8v T).length=T.length:=λT=>GB _;have H:=bp f;have B:=aP b;have K:=dW l s.toNat;refine aq BR (d:=2) (ns:=[]) (zs:=[]) (ws:=[]) ((jAt_nf _ l s f b).mpr ?_);simp only[lU,aT,B,Gz];generalize ikT l s.toNat=t1 at*;have J:=xC t1 f;generalize bsT t1 f=t2 at*;have I:=dW t2 b.length;generalize ikT t2 b.length=t0 at*;have l0:=n l;have l1:=n t1;have l2:=n t2;refine⟨⟨be _,be _,⟨⟨trivial,trivial,by omega⟩,w,by omega⟩⟩,⟨.dat (aG _),be _,be _,⟨⟨trivial,trivial,by omega⟩,⟨trivial,by omega⟩,by omega⟩⟩,⟨be _,be _,⟨⟨trivial,trivial,by omega⟩,⟨by omega,by omega⟩,by omega⟩⟩,.dat (aG _),.dat (aC _),be _,?_⟩;refine LAtZ.stepF BR [] [] [] [0,3,4] (by kernel_rfl) (λm G A=>∃ i:Nat,G=frAt i/\A=hAt ((b.take i).foldl rwT t0) s f b/\i+m=b.length) ?_ (k:=b.length) ⟨0,rfl,rfl,by omega⟩;rintro m G A ⟨i,rfl,rfl,E⟩;have u:=qa (b.take i) t0 λr g=>(q r (H5 g)).1;rw[Hh]at u;have j:i=b.length->(b.take i).foldl rwT t0=b.foldl rwT t0:=λe=>by rw[e,Hm]
 have p:=λh=>p9 rwT t0 (l:=b) (i:=i) h;generalize (b.take i).foldl rwT t0=l3 at*;have l4:=n l3;refine(Ea _ _ l l3 s f b i).mpr (Sp.intro (λc=>?_) (λc=>?_));have c:=odt c;have o:i<b.length:=by omega
 obtain⟨z,v⟩:=q _ (GH o);have t:=Ev (r:=b[i]) λx g=>(v x g).1;rw[dg o,lU,B8,t,aM (x:=(i:Int)+1) (by omega) (by omega)];refine⟨⟨by omega,by omega⟩,gG o,⟨.dat (pi _),be _,be _,⟨⟨rfl,rfl,by omega⟩,⟨rfl,λx g=>?_,by rw[GB];exact z⟩,by omega⟩⟩,.dat (aG _),.dat (aC _),be _,m-1,by omega,i+1,rfl,?_,by omega⟩;obtain⟨y,C,rfl⟩:=GA.1 g;have:=v y C;omega;rw[p o];rfl;have c:=odf c;rw[<-j (by omega)];exact(end_at _ l l3 s f b).mpr ⟨be _,rfl,rfl⟩
def spAt:Lh->List AObj->Option (Ll×Value×List AObj)
 | [.pointer (some ⟨B,o,none⟩),u],[.cells [.slice (some ⟨B1,o1,none⟩) n1 k1] e0,.gro l t e]=>(match auQ u with
   | some a=>bif ((Nat.beq B 0&&Nat.beq o 0)&&(Nat.beq B1 1&&Nat.beq o1 0))&&(Nat.beq k1 (unk+3+1)&&(Nat.beq e0 38&&Nat.beq e 5))then
     some (some ((t=[]/\l=u8v (l.map dU8)/\n1=l.length)/\(u=auV a/\TOk a)/\l.length<=1000),.tuple ⟨[]⟩,[.cells [groS 2 (auT (l.map dU8) a).length] e0,.dead,.gro (u8v (auT (l.map dU8) a)) [] e])else none
   |none=>none)
 |_,_=>none
theorem at_tab:∀ args A p v A',frmR noAr spAt args A=some (p,v,A')->PH p->CallAt env 16 args A v A':=aY ak (fn:=f16) rfl λargs c p v b h g=>by unfold spAt at h;split at h;rename_i B o u w m f n s l t e;split at h;rename_i a q;obtain⟨d,h⟩:=bA h;simp only[GC]at h;obtain⟨rfl,rfl,rfl⟩:=h;simp only[f',GL]at d;obtain⟨⟨⟨rfl,rfl⟩,rfl,rfl⟩,rfl,rfl,rfl⟩:=d;obtain⟨⟨rfl,k,rfl⟩,⟨rfl,j⟩,r⟩:(t=[]/\l=u8v (l.map dU8)/\f=l.length)/\(u=auV a/\TOk a)/\l.length<=1000:=g;have i:(l.map dU8).length=l.length:=GB _;generalize l.map dU8=L at*;subst k;have:=Ge L j (by omega);rw[<-kh,<-gQ]at this;rw[<-i];exact this;cases h;cases h
def elTd:El:={elT [] []with app:=true,gm:=λ_=>true,hk:=λd=>match d with|some 7=>[(.cell 7 0,5,1)]|_=>[]}
def XTd:SX:=⟨env,[(16,frmR noAr spAt),(36,frmR noAr spIk)],elTd,λ_=>.unroll 0⟩
def jTd(K:KV)(s:Int)(acc:Li)(nx:La)(e:Int):Prop:=bc XTd 3 f5 [.agg ⟨[.int .i64 s,dat 1 (blV acc),dat 1 (roV nx)]⟩,.int .i64 e] ⟨.leaf,0⟩ K
end
end Go.T9
