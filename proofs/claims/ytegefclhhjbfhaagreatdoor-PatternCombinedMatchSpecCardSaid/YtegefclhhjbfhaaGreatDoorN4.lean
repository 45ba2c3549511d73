/- A part of the proof. -/
import Derived.Test.YtegefclhhjbfhaaGreatDoorN3
set_option linter.unusedVariables false
set_option linter.unusedSimpArgs false
set_option maxRecDepth 1000000
set_option maxHeartbeats 400000
namespace Go.T9
open Go Go.AM Go.MK
noncomputable section
variable {A0:AH}{rw:La}{C F:Le}{ac:Li}{G:T Value}
theorem C9{s:Nat}(h:s<rw.length):ae (roV rw) (s:Int)=inV rw[s]:=by unfold ae;rw[D',aP];unfold roV;rw[HU,Hr h];rfl
theorem nth_r{s:Nat}(h:s<rw.length):nth (roV rw) s=some (Vd 1 (inV rw[s])):=by rw[aP];unfold roV;rw[HU,Hr h];rfl
def hBf(C F:Le)(a:Li)(b:La)(c:Lh)(Z:La)(z:Nat)(r:Le):AH:=hB (liB C F a b++[(4,groO c),(5,groE (sls ((memN Z).set z (8388544,r.length)))),(8388544,groI r)]) (gOff (ah Z) z) 8388545
theorem focB{els:Lh}{Z:La}{z:Nat}(c:z<Z.length)(o:Z.length<=100000):Turns env A0 nB G (hBi C F ac rw els Z) G (hBf C F ac rw els Z z Z[z]):=by
 have n:hBi C F ac rw els Z=⟨(hBi C F ac rw els Z).t,8388544⟩:=by kernel_rfl
 have a:sls ((memN Z).set z (8388544,Z[z].length))=(sls (memN Z)++[]).set z (groS 8388544 Z[z].length):=by rw[il,Hu];rfl
 have f:hBf C F ac rw els Z z Z[z]=hB (liB C F ac rw++[(4,groO els),(5,groE ((sls (memN Z)++[]).set z (groS 8388544 Z[z].length))),(8388544,groI Z[z])]) (gOff (ah Z) z) 8388545:=by unfold hBf;rw[a]
 have h:hB (liB C F ac rw++[(4,groO els),(5,groE ((sls (memN Z)++[]).set z (groS 8388544 Z[z].length))),(8388544,groI Z[z])]) (gOff (ah Z) z) 8388545=⟨(hB (liB C F ac rw++[(4,groO els),(5,groE ((sls (memN Z)++[]).set z (groS 8388544 Z[z].length))),(8388544,groI Z[z])]) (gOff (ah Z) z) 8388545).t,8388544+1⟩:=by kernel_rfl
 rw[f,n,h];have b:(sls (memN Z)++[])[z]? =some (.slice (some ⟨T.numF pM z,0,none⟩) Z[z].length (unk+3+1)):=by rw[Hu];unfold sls;rw[HU,b9? c];rfl
 exact Turns.focC (A:=⟨(hBi C F ac rw els Z).t,8388544⟩) (p:=pM) (g:=ah Z) (B0:=5) (i:=z) (j:=z) (k:=Z[z].length) (m:=unk+3+1) (els:=sls (memN Z)) (tl:=[]) (l:=inV Z[z]) (r:=[]) (e0:=49) (e:=3) (t1:=(hB (liB C F ac rw++[(4,groO els),(5,groE (sls (memN Z)))]) (gOff (ah Z) z) 0).t) (t2:=(hB (liB C F ac rw++[(4,groO els),(5,groE (sls (memN Z))),(8388544,groI Z[z])]) (gOff (ah Z) z) 0).t) (by kernel_rfl) (by rw[bK c];rfl) (by grind [numM]) (λ⟨i,d⟩=>by grind [numM]) (by kernel_rfl) (λ⟨i,d⟩=>by rw[numM]at d;omega) (by show 5≠8388544;omega) (by rw[Hu];exact kY _) b (by kernel_rfl) (by kernel_rfl) (by kernel_rfl)
def frBx(n m c:Nat):T Value:=(Nd (Nd (Nd (Nd (Nd (Nd Lf (some (.int .i64 m)) Lf) (some (.int .i64 ((c:Int)+1))) Lf) none Lf) (some (groS 4 n)) Lf) none (Nd (Nd (Nd (Nd Lf (some (.bool false)) Lf) none Lf) none Lf) none (Nd Lf (some (groS 4 n)) Lf))) (some (.pointer (some ⟨0,0,none⟩))) (Nd (Nd (Nd (Nd (Nd Lf (some (.int .i64 m)) Lf) none Lf) none Lf) (some (.int .i64 c)) (Nd Lf none (Nd Lf none (Nd Lf (some (.int .i64 ((c:Int)+1))) Lf)))) none (Nd Lf none (Nd Lf (some (.int .i64 n)) (Nd Lf (some (groS 3 m)) Lf)))))
structure RwOk (rw:La) (n:Nat):Prop where
 len:∀ r∈rw,r.length=n
 at':∀ r∈rw,∀x∈r,0<=x/\x<(rw.length:Int)
 m:rw.length<=90000
 n:n<=100000
theorem yj(v:Value)(n:Nat)(a:List (NPos×TypeId×Nat)):(XBk v n a).Ok:=⟨ai,aD,am,.nil⟩
theorem pb(rw:La)(c:Nat):∀ (s:Nat) (r:Le),r∈zRow rw c s->r.length<=s
 |0,r,h=>by obtain⟨_,rfl⟩:=Ja.1 h;exact Hw _
 | s+1,r,h=>by
  rcases Iz (show r∈List.set _ _ _ from h)with h1|h1;have:=pb rw c s r h1;omega;rw[h1,E',HY];cases e:(zRow rw c s)[((rw.getD s []).getD c 0).toNat]? with
  |none=>simp
  |some y=>have:=pb rw c s y (HR e);simp;exact this
def rZ(n j L:Nat):Nat->Lk:=rQ n j L 0 0 21
theorem tellB(dl:Lg)(ov:List (Nat×AObj))(m:Ld)(slots:Lg)(nx:Nat)(fm:FamS)(ρf:Nat->Lk):o8 XB.E (hDf C F ac rw) nB (cg 4 dl ov m slots nx fm ρf):=Eq.mp (by kernel_rfl) (bi (E:=env) am (A0:=hDf C F ac rw) (n:=nB) (dl:=dl) (ov:=ov) (m:=m) (slots:=slots) (nx:=nx) (fm:=fm) (ρf:=ρf))
theorem XBk_E(v:Value)(n:Nat)(a:List (NPos×TypeId×Nat)):(XBk v n a).E=XB.E:=rfl
theorem tR{K:KV}{a:KF}{D:List La}{k:Nat}(H:RwOk rw (D.length+(k+1)))
 (R:a (frBx (outM D rw.length k).length rw.length D.length) (hBi C F ac rw (outM D rw.length k) (zRow rw D.length rw.length))) {A:AH}
 (ht:Turns env (hDf C F ac rw) nB G A (frBI (outM D rw.length k).length rw.length D.length 0) (hBi C F ac rw (outM D rw.length k) (zRow rw D.length 0))):LAtZ XB 1 nB (hDf C F ac rw) (an (subC pB1 bB)) pB2 (kB1 K a C F ac rw) G A:=by
 have hm:=H.m;have hn:=H.n;have a1:=mh D rw.length k;have f:nth (outM D rw.length k) D.length=some (Value.slice (some ⟨5,0,none⟩) rw.length (unk+3+1)):=by rw[aP];unfold outM;rw[Ip (by rw[Hp];omega),Hp,IX];rfl
 have hz:∀ s (h:s<rw.length),D.length<rw[s].length/\(0<=(rw.getD s []).getD D.length 0/\(rw.getD s []).getD D.length 0<(rw.length:Int)):=λs h=>by
  have Q:=H.len _ (Hq h);have I:D.length<rw[s].length:=by omega
  refine⟨I,?_⟩;rw[gD h,gD I];exact H.at' _ (Hq h) _ (Hq I)
 have a3:∀ s (h:s<rw.length) (G:T Value),Turns env (hDf C F ac rw) nB G (hBi C F ac rw (outM D rw.length k) (zRow rw D.length s)) G (hBf C F ac rw (outM D rw.length k) (zRow rw D.length s) ((rw.getD s []).getD D.length 0).toNat ((zRow rw D.length s).getD ((rw.getD s []).getD D.length 0).toNat [])):=λs h G=>by grind [de,zRow,gD,focB]
 have j:∀ s,s<=rw.length->∀ G:T Value,∃A,((s<rw.length/\A=hBf C F ac rw (outM D rw.length k) (zRow rw D.length s) ((rw.getD s []).getD D.length 0).toNat ((zRow rw D.length s).getD ((rw.getD s []).getD D.length 0).toNat []))∨(s=rw.length/\A=hBi C F ac rw (outM D rw.length k) (zRow rw D.length s)))/\Turns env (hDf C F ac rw) nB G (hBi C F ac rw (outM D rw.length k) (zRow rw D.length s)) G A:=λs y G=>by by_cases h:s<rw.length;grind;exact⟨_,.inr ⟨by omega,rfl⟩,Turns.refl⟩
 obtain⟨A1,P,N⟩:=j 0 (Jp _) (frBI (outM D rw.length k).length rw.length D.length 0);refine LAtZ.stepT (by kernel_rfl) (λq G A=>∃ s:Nat,G=frBI (outM D rw.length k).length rw.length D.length s/\s+q=rw.length/\((s<rw.length/\A=hBf C F ac rw (outM D rw.length k) (zRow rw D.length s) ((rw.getD s []).getD D.length 0).toNat ((zRow rw D.length s).getD ((rw.getD s []).getD D.length 0).toNat []))∨(s=rw.length/\A=hBi C F ac rw (outM D rw.length k) (zRow rw D.length s)))) ?_ (k:=rw.length) ⟨0,rfl,by omega,P⟩ (ht.trans N);rintro q G A ⟨s,rfl,a0,⟨y,rfl⟩|⟨rfl,rfl⟩⟩;obtain⟨Q,I⟩:=hz s y;obtain⟨A2,O,w⟩:=j (s+1) (by omega) (frBI (outM D rw.length k).length rw.length D.length (s+1));have Y:=de rw D.length s;have J:zRow rw D.length (s+1)=pa (zRow rw D.length s) ((rw.getD s []).getD D.length 0).toNat s:=rfl;have a2:=pb rw D.length s;generalize hZ:zRow rw D.length s=Z at*;generalize V:((rw.getD s []).getD D.length 0).toNat=z at*;have b:z<Z.length:=by omega
 have u:rw[s][D.length]=(z:Int):=by grind
 have U:(Z.getD z []).length<=s:=by grind
 generalize S:Z.getD z []=r at*;have X:Z[z]=r:=by rw[<-S,gD b]
 have L:pa Z z s=Z.set z (r++[(s:Int)]):=by unfold pa;rw[S]
 have v:okB (mB++[(5,5)])=true:=by kernel_rfl
 have l:rhoX (mB++[(5,5)]) (rZ Z.length z 8388568) (T.numF pM z)=some 8388568:=(ce v _ z).trans (yK _ _ _ _ _ _);have o:∀ t,t≠z->t<Z.length->rhoX (mB++[(5,5)]) (rZ Z.length z 8388568) (T.numF pM t)=some (T.numF pM t):=λt h0 h=>(ce v _ t).trans (i7 h0 h);rw[J,L]at w;have M:nth (sls ((memN Z).set z (8388544,r.length))) z=some (Value.slice (some ⟨8388544,0,none⟩) r.length (unk+3+1)):=by rw[aP];unfold sls;rw[HU,IK (by rw[aO];exact b)];rfl
 have i:nth (inV rw[s]) D.length=some (Vi (z:Int)):=by rw[aL Q,u]
 have p:List.set (sls ((memN Z).set z (8388544,r.length))) z (Value.slice (some ⟨8388568,0,none⟩) (r.length+1) (unk+3+1))=sls ((memN Z).set z (8388568,r.length+1)):=by rw[il,il,List.set_set];rfl
 have c:ROX (rhoX (mB++[(5,5)]) (rZ Z.length z 8388568)) (.gro (List.set (sls ((memN Z).set z (8388544,r.length))) z (Value.slice (some ⟨8388568,0,none⟩) (r.length+1) (unk+3+1))) [] 49) (.gro (sls (memN (Z.set z (r++[(s:Int)])))) [] 49):=by rw[p];refine dz (by grind [aO,Hz]) λt h=>?_;grind [Hz,aO,pM,IK,b9?,Jy,E',Jd,Kh]
 refine⟨_,_,yj _ _ _,XBk_E _ _ _,tellB _ _ _ _ _ _ _,(jB2_nf K a _ C F ac rw (outM D rw.length k) (sls ((memN Z).set z (8388544,r.length))) (sls (memN (Z.set z (r++[(s:Int)])))) (gOff (ah Z) z) (ah (Z.set z (r++[(s:Int)]))) D.length s z r (rZ Z.length z 8388568)).mpr (Sp.intro (λd=>?_) (λd=>absurd (odf d) (by omega)))⟩;rw[C9 y,aA Q,u];simp only[HN,D'];refine⟨⟨by omega,by omega⟩,nth_r y,⟨by omega,by omega⟩,f,⟨by omega,by rw[af];omega⟩,i,⟨by omega,by omega⟩,f,⟨by omega,by rw[af];omega⟩,i,⟨by omega,by omega⟩,M,⟨rfl,(af r).symm,by omega,by omega⟩,i,trivial,f,trivial,⟨by omega,by omega⟩,by grind [bj,Hz,aO],⟨ak _ _,gd _ _,fS _ _,qP (B:=5) (B':=5) rfl,c,trivial⟩,ab _,id4 _ _,kR (by kernel_rfl) (by kernel_rfl) (by kernel_rfl) (by omega) (by omega) (by omega) (by omega) (by omega) (by omega) (by omega),⟨i6 (g:=gOff (ah Z) z) (by simp[pM]) l (λh=>by rw[Jy];exact e8 _ r [(s:Int)]) (λt h e=>⟨o t e (by grind),by grind [fk,jT]⟩),trivial⟩,q-1,by omega,_,A2,⟨s+1,rfl,by omega,O⟩,?_⟩;rw[aF (x:=(s:Int)+1) (by omega) (by omega)];exact Eq.mp (by kernel_rfl) w;refine⟨XBk nilS rw.length [],jD XB.E (hDf C F ac rw) nB,yj _ _ _,XBk_E _ _ _,cH,(EO K a _ C F ac rw (outM D rw.length k) (sls (memN (zRow rw D.length rw.length))) (ah (zRow rw D.length rw.length)) D.length).mpr (Sp.intro (λd=>absurd (odt d) (by omega)) (λd=>?_))⟩;rw[aF (x:=(D.length:Int)+1) (by omega) (by omega)];exact Eq.mp (by kernel_rfl) R
theorem yV(D:List La)(Z:La)(m k:Nat):(outM D m k++[]).set D.length (outV Z)=outE (D++[Z]) k:=by simp_all [Hu,outM,outE,JI,Hp,IX,JV,HD,Im]
theorem frzB{D:List La}{k:Nat}{Z:La}(q:Z.length=rw.length)(o:D.length+(k+1)<=100000):Turns env A0 nB G (hBi C F ac rw (outM D rw.length k) Z) G (hB (liB C F ac rw++[(4,groO (outE (D++[Z]) k)),(5,.dead)]) (λ_=>none) 8388544):=by
 have n:hBi C F ac rw (outM D rw.length k) Z=⟨(hBi C F ac rw (outM D rw.length k) Z).t,8388544⟩:=by kernel_rfl
 have f:hB (liB C F ac rw++[(4,groO ((outM D rw.length k++[]).set D.length (outV Z))),(5,.dead)]) (λ_=>none) 8388544=⟨(hB (liB C F ac rw++[(4,groO ((outM D rw.length k++[]).set D.length (outV Z))),(5,.dead)]) (λ_=>none) 8388544).t,8388544⟩:=by kernel_rfl
 rw[<-yV D Z rw.length k,n,f];have j:Turns env A0 nB G ⟨(hBi C F ac rw (outM D rw.length k) Z).t,8388544⟩ G ⟨(hB (liB C F ac rw++[(4,groO (outM D rw.length k)),(5,groE (roV Z))]) (λ_=>none) 0).t,8388544⟩:=by
  refine Turns.frzFam (A:=⟨(hBi C F ac rw (outM D rw.length k) Z).t,8388544⟩) (p:=pM) (g:=ah Z) (B0:=5) (els:=sls (memN Z)) (tl:=[]) (els2:=roV Z) (e:=49) (t1:=(hB (liB C F ac rw++[(4,groO (outM D rw.length k)),(5,groE (sls (memN Z)))]) (λ_=>none) 0).t) (by kernel_rfl) (by kernel_rfl) (by kernel_rfl) (λ⟨i,a⟩=>by rw[numM]at a;omega) (by rw[Hu,bj,aO];simp[roV]) (λi x x2 h d=>?_) (by kernel_rfl);rw[Hu]at h;have a:i<Z.length:=by grind [Hx,bj,aO]
  refine⟨i,Z[i].length,unk+3+1,inV Z[i],[],3,?_,bK a,by kernel_rfl,by kernel_rfl,by rw[Hu,af],?_⟩;unfold sls at h;rw[HU,b9? a]at h;exact(Iw h).symm;unfold roV at d;rw[HU,Hr a]at d;rw[Hu];exact(Iw d).symm
 refine j.trans ?_;have b:(outM D rw.length k++[])[D.length]? =some (Value.slice (some ⟨5,0,none⟩) rw.length (unk+3+1)):=by rw[Hu];unfold outM;rw[Ip (by rw[Hp];omega),Hp,IX];rfl
 exact Turns.frzAt (A:=⟨(hB (liB C F ac rw++[(4,groO (outM D rw.length k)),(5,groE (roV Z))]) (λ_=>none) 0).t,8388544⟩) (B0:=4) (B2:=5) (c:=D.length) (k:=rw.length) (m:=unk+3+1) (els:=outM D rw.length k) (tl:=[]) (l:=roV Z) (r:=[]) (e:=23) (e2:=49) (t1:=(hB (liB C F ac rw++[(4,groO (outM D rw.length k)),(5,.dead)]) (λ_=>none) 0).t) (by kernel_rfl) (by kernel_rfl) (by omega) (by rw[Hu];exact qu D 5 rw.length k) b (by kernel_rfl) (by kernel_rfl) (by grind [Hu,roV]) (by kernel_rfl) (by rw[Hu (roV Z)];kernel_rfl)
theorem jI{X:SX}(j:X.Ok){d:Nat}{fn:Func}{args:Lh}{A1:AH}{v:Value}{N:AH}(h:aN X d fn args A1 (EndF X.E A1 v N)):WalkF X.E fn args A1 v N:=by unfold aN at h;split at h;rename_i c i;split at h;rename_i F k;cases a:Nat.ble args.length fn.ntmps;rw[a]at h;exact h.elim;rw[a]at h;refine⟨c,F,i,a,k,(ik j (d:=d) h).mono λl m n q=>?_⟩;obtain⟨g,b,f,e⟩:=eG q;exact⟨g,b,f,e⟩;exact h.elim;exact h.elim
def dB(a:La)(c:Nat):List La:=(List.range c).map λc=>zRow a c a.length
theorem xw(rw:La)(c:Nat):(dB rw c).length=c:=by simp[dB]
theorem Gv(rw:La)(c:Nat):dB rw (c+1)=dB rw c++[zRow rw c rw.length]:=by unfold dB;rw[List.range_succ,HD];rfl
theorem turnB3(f:A0.next=4)(D:List La)(k:Nat)(c:Int):Turns env A0 nB ((.node (.node (.node (.node (.node .leaf (some (.int .i64 c)) .leaf) none .leaf) (some (groS 4 (outE D k).length)) .leaf) none (.node .leaf none (.node .leaf (some (groS 4 (outE D k).length)) .leaf))) (some (.pointer (some ⟨0,0,none⟩))) (.node .leaf none (.node .leaf none (.node .leaf (some (.int .i64 (outE D k).length)) .leaf))))) (hB (liB C F ac rw++[(4,groO (outE D k)),(5,.dead)]) (λ_=>none) 8388544) ((.node (.node (.node (.node (.node .leaf (some (.int .i64 c)) .leaf) none .leaf) (some (groS 4 (outE D k).length)) .leaf) none (.node .leaf none (.node .leaf (some (groS 4 (outE D k).length)) .leaf))) (some (.pointer (some ⟨0,0,none⟩))) (.node .leaf none (.node .leaf none (.node .leaf (some (.int .i64 (outE D k).length)) .leaf))))) (hBo C F ac rw (outE D k)):=by obtain⟨b,a⟩:=A0;obtain rfl:a=4:=f;have e:jBt3 (λG A=>G=(.node (.node (.node (.node (.node .leaf (some (.int .i64 c)) .leaf) none .leaf) (some (groS 4 (outE D k).length)) .leaf) none (.node .leaf none (.node .leaf (some (groS 4 (outE D k).length)) .leaf))) (some (.pointer (some ⟨0,0,none⟩))) (.node .leaf none (.node .leaf none (.node .leaf (some (.int .i64 (outE D k).length)) .leaf))))/\A=hBo C F ac rw (outE D k)) C F ac rw (outE D k) c (λ_=>none):=(EK _ C F ac rw (outE D k) c (λ_=>none)).mpr ⟨⟨ak _ _,gd _ _,fS _ _,k6 (ki _ _) (nj _ _),trivial⟩,ab _,id4 [] _,fD _ _,⟨cV,trivial⟩,by kernel_rfl,by kernel_rfl⟩;obtain⟨g,h,⟨rfl,rfl⟩,d⟩:=bi (E:=env) am (A0:=⟨b,4⟩) (n:=nB) _ _ _ e;exact d
theorem Hj:XB.Ok:=yj _ _ _
theorem tq{K:KV}{n:Nat}(g:RwOk rw n)
 (i:K (groS 4 n) (hBo C F ac rw (outE (dB rw n) 0))) {A:AH}
 (p:Turns env (hDf C F ac rw) nB G A (frB n 0) (hBo C F ac rw (outE (dB rw 0) n))):LAtZ XB 1 nB (hDf C F ac rw) bB pB1 (zH K) G A:=by
 have u:=g.m;have t:=g.n;refine LAtZ.stepT (by kernel_rfl) (λq G A=>∃ c:Nat,G=frB n c/\c+q=n/\A=hBo C F ac rw (outE (dB rw c) q)) ?_ (k:=n) ⟨0,rfl,by omega,rfl⟩ p;rintro q G A ⟨c,rfl,e,rfl⟩;have hDl:=xw rw c;have a:(outE (dB rw c) q).length=n:=by rw[fN,hDl];exact e
 have s:frB n c=frB (outE (dB rw c) q).length c:=by rw[a]
 rw[s];cases q with
 | zero=>
  refine⟨XB,jD XB.E (hDf C F ac rw) nB,Hj,rfl,cH,(Br K _ C F ac rw (outE (dB rw c) 0) c).mpr (Sp.intro (λd=>absurd (odt d) (by omega)) (λd=>?_))⟩;rw[a];have r:c=n:=by omega
  subst r;exact Eq.mp (by kernel_rfl) i
 |succ k=>
 have h:dB rw (c+1)=dB rw c++[zRow rw c rw.length]:=Gv rw c;generalize v:dB rw c=D at*;subst hDl;have l:(outE D (k+1)).length=(outM D rw.length k).length:=by rw[fN,mh]
 have f:RwOk rw (D.length+(k+1)):=by rw[e];exact g
 refine⟨XB,jD XB.E (hDf C F ac rw) nB,Hj,rfl,cH,(Br K _ C F ac rw (outE D (k+1)) D.length).mpr (Sp.intro (λd=>?_) (λd=>absurd (odf d) (by omega)))⟩;rw[yW,l];rw[l]at a;refine⟨⟨by omega,by omega,by omega,by omega⟩,⟨by omega,by omega⟩,by omega,tR f ?_ (Turns.trans (Turns.pick slB2 (F1:=frBI (outM D rw.length k).length rw.length D.length 0) (by kernel_rfl)) (Eq.mp (by kernel_rfl) (turnB2 (A0:=hDf C F ac rw) rfl (C:=C) (F:=F) (ac:=ac) (rw:=rw) (D:=D) (k:=k) (by omega))))⟩;have b:(outE (D++[zRow rw D.length rw.length]) k).length=(outM D rw.length k).length:=by grind [fN,mh,E',HW,Jw]
 have j:=turnB3 (A0:=hDf C F ac rw) rfl (C:=C) (F:=F) (ac:=ac) (rw:=rw) (D++[zRow rw D.length rw.length]) k ((D.length:Int)+1);have o:=λG=>frzB (A0:=hDf C F ac rw) (G:=G) (C:=C) (F:=F) (ac:=ac) (rw:=rw) (D:=D) (k:=k) (Z:=zRow rw D.length rw.length) (de _ _ _) (by omega);rw[b]at j;refine⟨frB (outM D rw.length k).length (D.length+1),hBo C F ac rw (outE (D++[zRow rw D.length rw.length]) k),⟨k,by omega,_,_,⟨D.length+1,by rw[a],by omega,by rw[h]⟩,Turns.refl⟩,Eq.mp (by kernel_rfl) (Turns.trans (Turns.pick (E:=env) (A0:=hDf C F ac rw) (n:=nB) (F:=frBx (outM D rw.length k).length rw.length D.length) (A:=hBi C F ac rw (outM D rw.length k) (zRow rw D.length rw.length)) slB1 (F1:=(.node (.node (.node (.node (.node .leaf (some (.int .i64 ((D.length:Int)+1))) .leaf) none .leaf) (some (groS 4 (outM D rw.length k).length)) .leaf) none (.node .leaf none (.node .leaf (some (groS 4 (outM D rw.length k).length)) .leaf))) (some (.pointer (some ⟨0,0,none⟩))) (.node .leaf none (.node .leaf none (.node .leaf (some (.int .i64 (outM D rw.length k).length)) .leaf))))) (by kernel_rfl)) (Turns.trans (o _) j))⟩
end
end Go.T9
namespace Go.T9
open Go Go.AM Go.MK Go.Proofs.Tryz
noncomputable section
theorem turnBE{A0:AH}(e:A0.next=4){C F:Le}{ac:Li}{rw:La}(D:List La)(k:Nat):Turns env A0 1 ((.node .leaf (some (groS 4 (outE D k).length)) .leaf)) (hBo C F ac rw (outE D k)) ((.node .leaf (some (groS 4 (outE D k).length)) .leaf)) (hBk C F ac rw (outE D k)):=by obtain⟨b,a⟩:=A0;obtain rfl:a=4:=e;have d:jBtE (λG A=>G=(.node .leaf (some (groS 4 (outE D k).length)) .leaf)/\A=hBk C F ac rw (outE D k)) C F ac rw (outE D k):=(EJ _ C F ac rw (outE D k)).mpr ⟨⟨ak _ _,gd _ _,fS _ _,k6 (ki _ _) (nj _ _),trivial⟩,ab _,id4 [] _,fD _ _,trivial,by kernel_rfl,by kernel_rfl⟩;obtain⟨f,g,⟨rfl,rfl⟩,c⟩:=bi (E:=env) am (A0:=⟨b,4⟩) (n:=1) _ _ _ d;exact c
theorem xY{C F:Le}{ac:Li}{rw:La}(c:RwOk rw F.length):WalkF env f78 [.pointer (some ⟨0,0,none⟩)] (hDf C F ac rw) (groS 4 F.length) (hBk C F ac rw (outE (dB rw F.length) 0)):=by
 have g:=c.n;have f:(outE [] F.length).length=F.length:=by rw[fN];simp
 have e:(outE (dB rw F.length) 0).length=F.length:=by rw[fN,xw];rfl
 have b:=turnB1 (A0:=hDf C F ac rw) rfl (C:=C) (F:=F) (ac:=ac) (rw:=rw) F.length;rw[f]at b;have a:=turnBE (A0:=hDf C F ac rw) rfl (C:=C) (F:=F) (ac:=ac) (rw:=rw) (dB rw F.length) 0;rw[e]at a;exact jI Hj (d:=1) ((jB0_nf _ C F ac rw).mpr ⟨⟨by omega,by omega,by omega,by omega⟩,tq c ⟨(.node .leaf (some (groS 4 F.length)) .leaf),(.node .leaf (some (groS 4 F.length)) .leaf),by kernel_rfl,by kernel_rfl,Eq.mp (by kernel_rfl) a⟩ (Turns.trans (Turns.pick slB1 (F1:=frB F.length 0) (by kernel_rfl)) (Eq.mp (by kernel_rfl) b))⟩)
noncomputable def nAk:Nat:=Func.ntmps f52
noncomputable def bAk:Code:=ay f52
def liD(C F:Le)(a:Li)(b:La):List (Nat×AObj):=[(0,dfO C [groS 1 F.length,groS 2 a.length,groS 3 b.length]),(1,groI F),(2,groB a),(3,groR b)]
def hAa(C F:Le)(ac:Li)(rw:La)(z all yes:Le):AH:=match ofL (liD C F ac rw++[(4,.cells [groS 5 z.length,nilS] 85),(5,groI z),(7,.cells [.pointer (some ⟨4,0,none⟩)] 82),(13,groI all),(14,groI yes)]) Lf with
 |some t=>⟨t,20⟩
 |none=>⟨.leaf,20⟩
def frAa(n y i:Nat):T Value:=(Nd (Nd (Nd Lf (some (.pointer (some ⟨7,0,none⟩))) (Nd (Nd (Nd Lf (some (.int .i64 n)) Lf) none Lf) none Lf)) none (Nd Lf (some (groS 13 n)) Lf)) (some (.pointer (some ⟨0,0,none⟩))) (Nd (Nd Lf (some (groS 14 y)) (Nd (Nd (Nd Lf (some (.int .i64 i)) Lf) none Lf) none Lf)) none Lf))
def elAk(hk:Lk->List (NPos×TypeId×Nat)):El:={El.of (λ_ t els i=>bif Nat.beq t 48 then some (.bool (az els i))else some (.int .i64 (aa els i)))with app:=true,gm:=λ_=>true,hk:=hk}
def pAk1:Lg:=[1,1,1,1,0,1,0]
end
end Go.T9
set_option maxHeartbeats 1000000
namespace Go.T9
open Go Go.AM Go.MK
noncomputable section
variable {B i:Nat}
def liG1(o all st:Le)(wes:Ents)(wc:Nat)(wk:Le):List (Nat×AObj):=
 [(4,.cells [groS 5 o.length,groS 25 1] 85),(5,groI o),(25,groE (sls [(13,all.length)])),(14,groI st),(24,.cells [.map (some 23)] 127),(23,.map wes wc),(7,.cells [.pointer (some ⟨4,0,none⟩)] 82),(22,.cells [groS 26 wk.length] 49),(26,groI wk),(13,groI all)]
def liA1(o:Le)(els:Lh)(st:Le)(wes:Ents)(wc:Nat)(wk:Le):List (Nat×AObj):=
 [(4,.cells [groS 5 o.length,groS 9000000 els.length] 85),(5,groI o),(14,groI st),(24,.cells [.map (some 23)] 127),(23,.map wes wc),(7,.cells [.pointer (some ⟨4,0,none⟩)] 82),(22,.cells [groS 9000001 wk.length] 49),(9000000,groE els),(9000001,groI wk)]
def Fx(o st all:Le)(W:List (Int×Bool×Nat))(wc:Nat)(wk:Le)(keep:List (Nat×AObj)):AH:=
 ⟨tP (liA1 (qEnd o st [all] W wc wk).o (sls (memL (bU (hAll o st []) (qEnd o st [all] W wc wk)))) st (esW (qEnd o st [all] W wc wk).W) (qEnd o st [all] W wc wk).wc (qEnd o st [all] W wc wk).wk++keep) pL (ah (bU (hAll o st []) (qEnd o st [all] W wc wk))),800000000000⟩
def kg(a:List (Nat×AObj)):Bool:=a.all λx=>decide (x.1<=3)
def spD1(o st all:Le)(W:List (Int×Bool×Nat))(wc:Nat)(wk:Le)(keep:List (Nat×AObj)):RunF:=λargs A=>
 some (some (args=[.pointer (some ⟨4,0,none⟩),groS 14 st.length,cCut 24 7 22]/\(Nat.ble A.next 8388606&&kg keep)=true/\getL A.t ((liG1 o all st (esW W) wc wk).map (·.1))=(liG1 o all st (esW W) wc wk).map (λx=>some x.2)/\getL A.t (keep.map (·.1))=keep.map (λx=>some x.2)/\SpOk o st [all] W wc wk),
  .tuple ⟨[]⟩,Fx o st all W wc wk keep)
def mG1:Ld:=[(0,4),(1,5),(2,25),(3,14),(4,24),(5,23),(6,7),(7,22),(8,26),(63,13)]
def mG21:Ld:=[(4,0),(5,1),(14,3),(24,4),(23,5),(7,6),(22,7),(9000000,12),(9000001,13)]
def rG1:Nat->Lk:=rhoX mG1 (λ_=>none)
def rG21(n:Nat):Nat->Lk:=rhoX mG21 (rhoP pL (fG pM n))
theorem jf(h:rG1 i=some B):(i,B)∈mG1:=by unfold rG1 rhoX at h;split at h;rename_i x a;cases h;exact ba a;cases h
theorem gI{n:Nat}(h:rG21 n B=some i):(B,i)∈mG21∨∃ t,t<n/\B=8388608*t+16777214/\i=64*t+63:=by unfold rG21 rhoX at h;split at h;rename_i x a;cases h;exact .inl (ba a);obtain⟨t,e,d⟩:=dM h;obtain⟨c,b⟩:=qe d;exact .inr ⟨t,c,by rw[e,numL],by rw[b,numM]⟩
theorem rr(h:(i,B)∈mG1):(i=0/\B=4)∨(i=1/\B=5)∨(i=2/\B=25)∨(i=3/\B=14)∨(i=4/\B=24)∨(i=5/\B=23)∨(i=6/\B=7)∨(i=7/\B=22)∨(i=8/\B=26)∨(i=63/\B=13):=by simpa[mG1]using h
theorem go(h:(B,i)∈mG21):(B=4/\i=0)∨(B=5/\i=1)∨(B=14/\i=3)∨(B=24/\i=4)∨(B=23/\i=5)∨(B=7/\i=6)∨(B=22/\i=7)∨(B=9000000/\i=12)∨(B=9000001/\i=13):=by simpa[mG21]using h
theorem AO{n t:Nat}(h:t<n):rG21 n (T.numF pL t)=some (T.numF pM t):=by
 have a:back mG21 (T.numF pL t)=none:=kJ λx b e=>by grind [go,numL]
 unfold rG21;rw[nP a,ir];unfold fG;rw[Ht h]
theorem C7{a:Le}{j:Nat}{o:AObj}(h:ah [a] j=some o):j=0/\o=groI a:=by obtain⟨b,rfl⟩:=bu h;grind
theorem d1_tab(o st b:Le)(W:List (Int×Bool×Nat))(wc:Nat)(wk:Le)(k:List (Nat×AObj)):∀ args A p v A',spD1 o st b W wc wk k args A=some (p,v,A')->PH p->CallAt env 77 args A v A':=by
 intro args A p v A' h E;unfold spD1 at h;cases h;obtain⟨rfl,C,K,H,c⟩:=E;simp only[f',HA]at C;obtain⟨F,u⟩:=C;have w:=gW H;have d:=gW K;have O:hBeg o st [b] W wc wk=⟨(hBeg o st [b] W wc wk).t,8388544⟩:=by kernel_rfl
 have r:=(kV (W:=W) (wc:=wc) c.hst c.ho c.hr c.hN (by have:=c.hn;omega) (by have:=c.hm;omega) c.hw (by have:=c.hj;omega)).call ai (f:=77) rfl;rw[O]at r;have s:=jg (hAll o st []) 0 ⟨o,[b],[],W,wc,wk⟩;have I:=mJ o st [];have z:(bU (hAll o st []) (qEnd o st [b] W wc wk)).length<=95000:=by rw[cC];have g:(qEnd o st [b] W wc wk).mem.length=1:=s.1;have a:[b].length=1:=rfl;have:=c.hj;omega
 generalize D:qEnd o st [b] W wc wk=S at*;have M:hEnd o st [b] W wc wk=hE st S.o (bU (hAll o st []) S) S.W S.wc S.wk:=by unfold hEnd;rw[D]
 rw[M]at r;generalize L:bU (hAll o st []) S=Al at*;have N:Fx o st b W wc wk k=⟨tP (liA1 S.o (sls (memL Al)) st (esW S.W) S.wc S.wk++k) pL (ah Al),800000000000⟩:=by unfold Fx;rw[D,L]
 rw[N];have G:=c.hm;refine eL (ρ:=rG1) (ρ2:=rG21 Al.length) (t1:=(hBeg o st [b] W wc wk).t) (k1:=8388544) ⟨λi q h J=>?_,λi q h J=>?_,λi j B q y _ _ _ _ g a=>?_,λi B h=>?_⟩ ?_ r (by omega) (λB i Q h=>?_) (λB i h=>?_) (λV U i q y _ _ _ _ g a=>?_) (.tuple .nil) (λB q h=>?_);rcases rT h with a|⟨j,rfl,a⟩|⟨j,_,a⟩;simp only[liQ,HE,Hs,Jn,J9]at a;rcases a with⟨rfl,rfl⟩|⟨rfl,rfl⟩|⟨rfl,rfl⟩|⟨rfl,rfl⟩|⟨rfl,rfl⟩|⟨rfl,rfl⟩|⟨rfl,rfl⟩|⟨rfl,rfl⟩|⟨rfl,rfl⟩;exact⟨4,_,rfl,d (4,_) (.head _),.of (.cells (.cons (.slice rfl) (.cons (.slice rfl) .nil)))⟩;exact⟨5,_,rfl,d (5,_) (.tail _ (.head _)),ak _ _⟩;exact⟨25,_,rfl,d (25,_) (.tail _ (.tail _ (.head _))),dz (l:=[(13,b.length)]) (l':=memN [b]) (by rw[aO];rfl) λt m=>by
  have m:t<1:=m;obtain rfl:t=0:=by omega
  exact⟨13,63,b.length,rfl,rfl,rfl⟩⟩
 exact⟨14,_,rfl,d (14,_) (.tail _ (.tail _ (.tail _ (.head _)))),ak _ _⟩;exact⟨24,_,rfl,d (24,_) (.tail _ (.tail _ (.tail _ (.tail _ (.head _))))),.of (.cells (.cons (.map rfl) .nil))⟩;exact⟨23,_,rfl,d (23,_) (.tail _ (.tail _ (.tail _ (.tail _ (.tail _ (.head _)))))),dy _ _ _⟩;exact⟨7,_,rfl,d (7,_) (.tail _ (.tail _ (.tail _ (.tail _ (.tail _ (.tail _ (.head _))))))),.of (.cells (.cons (.ptr rfl) .nil))⟩;exact⟨22,_,rfl,d (22,_) (.tail _ (.tail _ (.tail _ (.tail _ (.tail _ (.tail _ (.tail _ (.head _)))))))),.of (.cells (.cons (.slice rfl) .nil))⟩;exact⟨26,_,rfl,d (26,_) (.tail _ (.tail _ (.tail _ (.tail _ (.tail _ (.tail _ (.tail _ (.tail _ (.head _))))))))),ak _ _⟩;have n:=a;obtain⟨rfl,rfl⟩:=C7 n;exact⟨13,_,rfl,d (13,_) (.tail _ (.tail _ (.tail _ (.tail _ (.tail _ (.tail _ (.tail _ (.tail _ (.tail _ (.head _)))))))))),ak _ _⟩;cases a;rcases rT h with a|⟨j,rfl,a⟩|⟨j,_,a⟩;simp only[liQ,HE,Hs,Jn,J9]at a;rcases a with⟨rfl,rfl⟩|⟨rfl,rfl⟩|⟨rfl,rfl⟩|⟨rfl,rfl⟩|⟨rfl,rfl⟩|⟨rfl,rfl⟩|⟨rfl,rfl⟩|⟨rfl,rfl⟩|⟨rfl,rfl⟩<;>rfl;obtain⟨g,rfl⟩:=bu a;rfl;cases a;have:=rr (jf g);have:=rr (jf a);omega;have:=rr (jf h);omega;exact .cons (.ptr rfl) (.cons (.slice rfl) (.cons (.func rfl .nil (.cons (.ptr rfl) (.cons (.ptr rfl) (.cons (.ptr rfl) .nil)))) .nil));rcases gI h with h|⟨t,_,g,n⟩;rcases go h with⟨rfl,rfl⟩|⟨rfl,rfl⟩|⟨rfl,rfl⟩|⟨rfl,rfl⟩|⟨rfl,rfl⟩|⟨rfl,rfl⟩|⟨rfl,rfl⟩|⟨rfl,rfl⟩|⟨rfl,rfl⟩;exact⟨by omega,rfl⟩;exact⟨by omega,rfl⟩;exact⟨by omega,rfl⟩;exact⟨by omega,rfl⟩;exact⟨by omega,rfl⟩;exact⟨by omega,rfl⟩;exact⟨by omega,rfl⟩;omega;omega;omega;· rcases gI h with h|⟨t,_,g,n⟩;all_goals grind [go]
 · rcases gI g with g|⟨t,_,g,n⟩<;>rcases gI a with a|⟨P,_,a,R⟩;have:=go g;have:=go a;omega;have:=go g;omega;all_goals grind [go]
 rcases Ay h with a|⟨j,rfl,a⟩;rcases H3.1 a with a|a;simp only[liA1,HE,Hs,Jn,J9]at a;rcases a with⟨rfl,rfl⟩|⟨rfl,rfl⟩|⟨rfl,rfl⟩|⟨rfl,rfl⟩|⟨rfl,rfl⟩|⟨rfl,rfl⟩|⟨rfl,rfl⟩|⟨rfl,rfl⟩|⟨rfl,rfl⟩;refine .inl ⟨0,.cells [groS 1 S.o.length,groS 12 (sls (memN Al)).length] 85,rfl,by kernel_rfl,?_⟩;rw[show(sls (memL Al)).length=(sls (memN Al)).length from by rw[bj,bj,dm,aO]];exact .of (.cells (.cons (.slice rfl) (.cons (.slice rfl) .nil)));exact .inl ⟨1,groI S.o,rfl,by kernel_rfl,ak _ _⟩;exact .inl ⟨3,groI st,rfl,by kernel_rfl,ak _ _⟩;exact .inl ⟨4,.cells [.map (some 5)] 127,rfl,by kernel_rfl,.of (.cells (.cons (.map rfl) .nil))⟩;exact .inl ⟨5,.map (esW S.W) S.wc,rfl,by kernel_rfl,dy _ _ _⟩;exact .inl ⟨6,.cells [.pointer (some ⟨0,0,none⟩)] 82,rfl,by kernel_rfl,.of (.cells (.cons (.ptr rfl) .nil))⟩;exact .inl ⟨7,.cells [groS 13 S.wk.length] 49,rfl,by kernel_rfl,.of (.cells (.cons (.slice rfl) .nil))⟩;refine .inl ⟨12,groE (sls (memN Al)),rfl,by kernel_rfl,dz (by rw[dm,aO]) λt m=>?_⟩;rw[aO]at m;exact⟨T.numF pM t,T.numF pL t,Al[t].length,b9? m,pE m,AO m⟩;exact .inl ⟨13,groI S.wk,rfl,by kernel_rfl,ak _ _⟩;have hd:=odt (HV.1 u _ a);refine .inr ⟨w _ a,λi y _ _ e=>?_⟩;have:=rr (jf e);omega;have n:=a;obtain⟨g,rfl⟩:=bu n;have x:T.getFn pM (hE st S.o Al S.W S.wc S.wk).t=some (ah Al):=by kernel_rfl
 exact .inl ⟨T.numF pM j,_,AO g,by rw[I8 x];exact a,ak _ _⟩
end
end Go.T9
namespace Go.T9
open Go Go.AM Go.MK Go.Proofs.Tryz
noncomputable section
theorem Fr(C F:Le)(a:Li)(b:La)(els:Lh):aQ [dfO C [groS 1 F.length,groS 2 a.length,groS 3 b.length],groI F,groB a,groR b,groO els]=hBk C F a b els:=by kernel_rfl
def CS(els2:Le->Li->La->Lh):Lh->List AObj->Option (Ll×Value×List AObj)
 | [.pointer (some ⟨B,o,none⟩)],[.arr els [.slice (some ⟨B1,o1,none⟩) n1 k1,.slice (some ⟨B2,o2,none⟩) n2 k2,.slice (some ⟨B3,o3,none⟩) n3 k3] q e,.gro l1 t1 e1,.gro l2 t2 e2,.gro l3 t3 e3]=>
   bif ((Nat.beq B 0&&Nat.beq o 0)&&((Nat.beq B1 1&&Nat.beq o1 0)&&((Nat.beq B2 2&&Nat.beq o2 0)&&(Nat.beq B3 3&&Nat.beq o3 0))))&&(((Nat.beq k1 (unk+3+1)&&Nat.beq k2 (unk+3+1))&&(Nat.beq k3 (unk+3+1)&&Nat.beq q 256))&&((Nat.beq e 51&&Nat.beq e1 3)&&(Nat.beq e2 4&&Nat.beq e3 49)))then
    some (some (els=inV (els.map deI)/\(t1=[]/\t2=[]/\t3=[])/\(l1=inV (l1.map deI)/\l2=blV (l2.map deB)/\l3=roV (l3.map deR))/\(n1=l1.length/\n2=l2.length/\n3=l3.length)/\RwOk (l3.map deR) n1),
     groS 4 n1,[.arr els [.slice (some ⟨1,0,none⟩) n1 k1,.slice (some ⟨2,0,none⟩) n2 k2,.slice (some ⟨3,0,none⟩) n3 k3] q e,.gro l1 [] e1,.gro l2 [] e2,.gro l3 [] e3,groO (els2 (l1.map deI) (l2.map deB) (l3.map deR))])else none
 |_,_=>none
def bkE(F:Le)(b:Li)(a:La):Lh:=outE (dB a F.length) 0
def spBk:=CS bkE
theorem bk_tab:∀ args A p v A',frmR arD spBk args A=some (p,v,A')->PH p->CallAt env 78 args A v A':=aS ai (fn:=f78) rfl λargs g p v f h u=>by unfold spBk CS at h;split at h;rename_i B o a O E i I N D t H M z s G q e d r L c n K b m J;obtain⟨j,h⟩:=bl h;simp only[Hs]at h;obtain⟨rfl,rfl,rfl⟩:=h;simp only[f',Hy]at j;obtain⟨⟨⟨rfl,rfl⟩,⟨rfl,rfl⟩,⟨rfl,rfl⟩,rfl,rfl⟩,⟨⟨rfl,rfl⟩,rfl,rfl⟩,⟨rfl,rfl⟩,rfl,rfl⟩:=j;obtain⟨l,⟨rfl,rfl,rfl⟩,⟨y,x,w⟩,⟨rfl,rfl,rfl⟩,k⟩:a=inV (a.map deI)/\(r=[]/\n=[]/\m=[])/\(d=inV (d.map deI)/\c=blV (c.map deB)/\b=roV (b.map deR))/\(i=d.length/\t=c.length/\s=b.length)/\RwOk (b.map deR) i:=u;generalize a.map deI=C at l;generalize d.map deI=F at*;generalize c.map deB=ac at*;generalize b.map deR=rw' at*;subst l;subst y;subst x;subst w;rw[af]at k;rw[af,aT,aG];have:=xY (C:=C) (ac:=ac) k;rw[<-iD,<-Fr]at this;exact this;cases h
def spD1G(o st all:Le)(wes:Ents)(wc:Nat)(wk:Le)(keep:List (Nat×AObj))(o2:Le)(els2:Lh)(wes2:Ents)(wc2:Nat)(wk2:Le)(g2:Nat->Option AObj)(ok:Prop):RunF:=λargs A=>
 some (some (args=[.pointer (some ⟨4,0,none⟩),groS 14 st.length,cCut 24 7 22]/\(Nat.ble A.next 8388606&&kg keep)=true/\getL A.t ((liG1 o all st wes wc wk).map (·.1))=(liG1 o all st wes wc wk).map (λx=>some x.2)/\getL A.t (keep.map (·.1))=keep.map (λx=>some x.2)/\ok),
  .tuple ⟨[]⟩,⟨tP (liA1 o2 els2 st wes2 wc2 wk2++keep) pL g2,800000000000⟩)
def spDvG(o st:Le)(els:Lh)(wes:Ents)(wc:Nat)(wk:Le)(g:Nat->Option AObj)(keep:List (Nat×AObj))(o2:Le)(els2:Lh)(wes2:Ents)(wc2:Nat)(wk2:Le)(g2:Nat->Option AObj)(ok:Prop):RunF:=λargs A=>
 some (some (args=[.pointer (some ⟨4,0,none⟩),groS 14 st.length,cCut 10 7 8]/\(Nat.ble A.next 8388606&&rC keep)=true/\getL A.t ((liG o els st wes wc wk).map (·.1))=(liG o els st wes wc wk).map (λx=>some x.2)/\getL A.t (keep.map (·.1))=keep.map (λx=>some x.2)/\T.getFn pM A.t=some g/\ok),
  .tuple ⟨[]⟩,⟨tP (liA o2 els2 st wes2 wc2 wk2++keep) pL g2,800000000000⟩)
theorem Gw(o st a:Le)(W:List (Int×Bool×Nat))(wc:Nat)(wk:Le)(b:List (Nat×AObj)):∀ args A p v A',spD1G o st a (esW W) wc wk b (qEnd o st [a] W wc wk).o (sls (memL (bU (hAll o st []) (qEnd o st [a] W wc wk)))) (esW (qEnd o st [a] W wc wk).W) (qEnd o st [a] W wc wk).wc (qEnd o st [a] W wc wk).wk (ah (bU (hAll o st []) (qEnd o st [a] W wc wk))) (SpOk o st [a] W wc wk) args A=some (p,v,A')->PH p->CallAt env 77 args A v A':=d1_tab o st a W wc wk b
theorem Gq(o st:Le)(mem:La)(W:List (Int×Bool×Nat))(wc:Nat)(wk:Le)(a:List (Nat×AObj)):∀ args A p v A',spDvG o st (sls (memN mem)) (esW W) wc wk (ah mem) a (qEnd o st mem W wc wk).o (sls (memL (bU (hAll o st []) (qEnd o st mem W wc wk)))) (esW (qEnd o st mem W wc wk).W) (qEnd o st mem W wc wk).wc (qEnd o st mem W wc wk).wk (ah (bU (hAll o st []) (qEnd o st mem W wc wk))) (SpOk o st mem W wc wk) args A=some (p,v,A')->PH p->CallAt env 77 args A v A':=dv_tab o st mem W wc wk a
abbrev BE:=Le->Li->La->Lh
structure AV where
 C:Le
 F:Le
 ac:Li
 rw:La
 z:Le
 yes:Le
 all:Le
 o2:Le
 els2:Lh
 wes2:Ents
 wc2:Nat
 wk2:Le
 g2:Nat->Option AObj
 ok:Prop
 bE:BE
def hkA:Lk->List (NPos×TypeId×Nat):=λd=>match d with
 |some 4=>[(.slot 4,3,1)]
 |some 63=>[(.groC 3 [0] 1,49,1),(.groC 7 [] 0,3,1)]
 |_=>[]
def w0E:Ents:=[(.int .i64 0,.bool true,0)]
def XA(v:AV):SX:=
 ⟨env,[(77,spD1G v.z v.yes v.all w0E 1 [0] (liD v.C v.F v.ac v.rw) v.o2 v.els2 v.wes2 v.wc2 v.wk2 v.g2 v.ok),(78,frmR arD (CS v.bE))],elAk hkA,λ_=>.raw⟩
def iB(K:KV):KX:=finK env (f52.results).toList K
def hD0(v:AV):AH:=hDf v.C v.F v.ac v.rw
def jA0(K:KV)(v:AV):Prop:=aN (XA v) 1 f52 [.pointer (some ⟨0,0,none⟩)] (hD0 v) K
def ovAa(F:Le)(a:Li)(b:La)(z c d:Le):List (Nat×AObj):=[(1,groI F),(2,groB a),(3,groR b),(5,groI z),(13,groI c),(14,groI d)]
def slAa:Lg:=[0,3,4,5,35,36]
def mAa(a:Nat):Ld:=[(0,0),(1,1),(2,2),(3,3),(4,4),(5,5),(7,7),(13,13),(14,a)]
def jA1t(K:KV)(K2:KF)(v:AV)(yes1 all1 yes3 all3:Le)(i:Nat):Prop:=
 bJ (XA v) (XA v) 1 nAk (hD0 v) bAk pAk1 (iB K) (cg 4 [] (ovAa v.F v.ac v.rw v.z all3 yes3) (mAa 21) slAa 20 [] (λ_=>none) K2) (frAa all1.length yes1.length i) (hAa v.C v.F v.ac v.rw v.z all1 yes1)
def jA1f(K:KV)(K2:KF)(v:AV)(yes1 all1 yes3 all3:Le)(i:Nat):Prop:=
 bJ (XA v) (XA v) 1 nAk (hD0 v) bAk pAk1 (iB K) (cg 4 [] (ovAa v.F v.ac v.rw v.z all3 yes3) (mAa 14) slAa 20 [] (λ_=>none) K2) (frAa all1.length yes1.length i) (hAa v.C v.F v.ac v.rw v.z all1 yes1)
def jA1e(K:KV)(K2:KF)(v:AV):Prop:=
 bJ (XA v) (XA v) 1 nAk (hD0 v) bAk pAk1 (iB K) K2 (frAa v.all.length v.yes.length v.all.length) (hAa v.C v.F v.ac v.rw v.z v.all v.yes)
def frAz(n:Nat):T Value:=(Nd (Nd (Nd Lf (some (.pointer (some ⟨6,0,none⟩))) (Nd (Nd (Nd Lf (some (.int .i64 n)) Lf) none Lf) none Lf)) none (Nd Lf (some (groS 8 n)) Lf)) (some (.pointer (some ⟨0,0,none⟩))) (Nd (Nd Lf (some (groS 7 0)) (Nd (Nd (Nd Lf (some (.int .i64 0)) Lf) none Lf) none Lf)) none Lf))
def hAz(C F:Le)(ac:Li)(rw:La)(z all:Le):AH:=match ofL (liD C F ac rw++[(4,groI z),(5,.cells [groS 4 z.length,nilS] 85),(6,.cells [.pointer (some ⟨5,0,none⟩)] 82),(7,.gro [] [] 3),(8,groI all)]) Lf with
 |some t=>⟨t,9⟩
 |none=>⟨.leaf,9⟩
def jAt1(K2:KF)(C F:Le)(ac:Li)(rw:La)(z all:Le):Prop:=
 cg 4 [] (ovAa F ac rw z all []) [(0,0),(1,1),(2,2),(3,3),(4,5),(5,4),(7,6),(13,8),(14,7)] slAa 20 [] (λ_=>none) K2 (frAz all.length) (hAz C F ac rw z all)
structure LV where
 o:Le
 els:Lh
 wes:Ents
 wc:Nat
 wk:Le
 bE:Lh
def liO(v:AV)(s:LV):List (Nat×AObj):=liD v.C v.F v.ac v.rw++[(4,.cells [groS 5 s.o.length,groS 6 s.els.length] 85),(5,groI s.o),(6,groE s.els),(7,.cells [.pointer (some ⟨4,0,none⟩)] 82),(8,.cells [groS 9 s.wk.length] 49),(9,groI s.wk),(10,.cells [.map (some 11)] 127),(11,.map s.wes s.wc),(12,groO s.bE)]
def hM(lits:List (Nat×AObj))(g:Nat->Option AObj)(nx:Nat):AH:=match ofL lits Lf with
 | some t=>(match iO [(pM,g),(pL,λ_=>none)] t with
   |some t1=>⟨t1,nx⟩
   |none=>⟨.leaf,nx⟩)
 |none=>⟨.leaf,nx⟩
def slO:Lg:=[0,3,7,8,9,10]
def slC:Lg:=[0,3,7,8,9,10,12,98,99]
def slW:Lg:=[0,3,7,8,9,10,12,13,14,98,99,102,103,104]
def pO:Lg:=[1,1,1,1,1,1,1,1,1,1,1,0,0]
def pC:Lg:=[1,0,1,1,1,1,1,0]
def pW:Lg:=[1,1,0,0,1,1,0,1,0]
noncomputable def bO:Code:=an (subC pO bAk)
noncomputable def bC:Code:=an (subC pC (an (subC pO bAk)))
def frO(a:Nat):T Value:=(Nd (Nd (Nd (Nd Lf (some (.pointer (some ⟨8,0,none⟩))) Lf) (some (.pointer (some ⟨7,0,none⟩))) Lf) none (Nd (Nd Lf (some (cCut 10 7 8)) Lf) none Lf)) (some (.pointer (some ⟨0,0,none⟩))) (Nd (Nd (Nd Lf (some (.pointer (some ⟨10,0,none⟩))) Lf) none Lf) none (Nd (Nd Lf (some (groS 12 a)) Lf) none Lf)))
def frC(b k a c:Nat):T Value:=(Nd (Nd (Nd (Nd Lf (some (.pointer (some ⟨8,0,none⟩))) Lf) (some (.pointer (some ⟨7,0,none⟩))) (Nd (Nd (Nd Lf none (Nd Lf (some (.int .i64 c)) Lf)) none Lf) none Lf)) none (Nd (Nd Lf (some (cCut 10 7 8)) Lf) none Lf)) (some (.pointer (some ⟨0,0,none⟩))) (Nd (Nd (Nd Lf (some (.pointer (some ⟨10,0,none⟩))) Lf) none (Nd Lf (some (groS 13 k)) Lf)) none (Nd (Nd (Nd (Nd Lf none (Nd Lf (some (.int .i64 a)) Lf)) none Lf) (some (groS 12 b)) Lf) none Lf)))
def frW(b k a c f i:Nat):T Value:=(Nd (Nd (Nd (Nd Lf (some (.pointer (some ⟨8,0,none⟩))) (Nd (Nd Lf none (Nd Lf (some (.int .i64 k)) Lf)) none Lf)) (some (.pointer (some ⟨7,0,none⟩))) (Nd (Nd (Nd Lf none (Nd Lf (some (.int .i64 c)) Lf)) none Lf) none Lf)) none (Nd (Nd Lf (some (cCut 10 7 8)) Lf) none (Nd Lf (some (.int .i64 c)) Lf))) (some (.pointer (some ⟨0,0,none⟩))) (Nd (Nd (Nd Lf (some (.pointer (some ⟨10,0,none⟩))) (Nd (Nd Lf none (Nd Lf (some (.int .i64 i)) Lf)) none Lf)) none (Nd Lf (some (groS 13 k)) Lf)) none (Nd (Nd (Nd (Nd Lf none (Nd Lf (some (.int .i64 a)) Lf)) none Lf) (some (groS 12 b)) Lf) none (Nd (Nd (Nd Lf none (Nd Lf (some (groS 13 k)) Lf)) none Lf) (some (groS 14 f)) Lf))))
structure OV where
 k:Nat
 es:Ents
def elO(x:OV):El:={El.of (λ_ s els i=>bif Nat.beq s 91 then some (groS 8388544 x.k)else some (.int .i64 (aa els i)))with app:=true,gm:=λ_=>true,md:=λ_ _ _=>some x.es,hk:=λd=>match d with
 |some 84=>[(.cutC 7 [] 0,3,1)]
 |some 5=>[(.emp 5,3,1)]
 |some 14=>[(.slot 14,3,1)]
 |_=>[]}
def XO(x:OV):SX:=⟨env,[],elO x,λ_=>.raw⟩
def jO(K:KV)(again:KF)(v:AV)(s:LV)(g:Nat->Option AObj)(own:Le)(es2:Ents):Prop:=
 bJ (XO ⟨own.length,es2⟩) (XA v) 1 nAk (hD0 v) bAk pO (iB K) again (frO s.bE.length) (hM (liO v s++[(8388544,groI own)]) g 8388545)
def jOe(K:KV)(again:KF)(v:AV)(s:LV)(g:Nat->Option AObj):Prop:=
 bJ (XO ⟨0,[]⟩) (XA v) 1 nAk (hD0 v) bAk pO (iB K) again (frO s.bE.length) (hM (liO v s) g 8388544)
noncomputable def kC(v:AV)(K:KV)(a:KF):KX:=stepR (XA v) 1 nAk (hD0 v) bAk pO (iB K) a
structure CV where
 st:Le
 o2:Le
 els2:Lh
 wes2:Ents
 wc2:Nat
 wk2:Le
 g2:Nat->Option AObj
 ok:Prop
def DQ(v:AV)(s:LV)(a:Le):List (Nat×AObj):=liD v.C v.F v.ac v.rw++[(12,groO s.bE),(13,groI a)]
def elC:El:={El.of (λ_ s els i=>some (.int .i64 (aa els i)))with app:=true,gm:=λ_=>true,hk:=λd=>match d with
 |some 14=>[(.slot 14,3,1)]
 |_=>[]}
def XC(v:AV)(s:LV)(g:Nat->Option AObj)(a:Le)(w:CV):SX:=⟨env,[(77,spDvG s.o w.st s.els s.wes s.wc s.wk g (DQ v s a) w.o2 w.els2 w.wes2 w.wc2 w.wk2 w.g2 w.ok)],elC,λ_=>.raw⟩
def jC(K:KV)(again again2:KF)(v:AV)(x:OV)(s:LV)(g:Nat->Option AObj)(own:Le)(w:CV)(nc c:Nat):Prop:=
 bJ (XC v s g own w) (XO x) 1 nAk (hD0 v) bO pC (kC v K again) again2 (frC s.bE.length own.length nc c) (hM (liO v s++[(13,groI own)]) g 8388544)
def ovO(v:AV)(s:LV):List (Nat×AObj):=[(1,groI v.F),(2,groB v.ac),(3,groR v.rw),(5,groI s.o),(6,groE s.els),(9,groI s.wk),(11,.map s.wes s.wc),(12,groO s.bE)]
def mO:Ld:=[(0,0),(1,1),(2,2),(3,3),(4,4),(5,5),(6,6),(7,7),(8,8),(9,9),(10,10),(11,11),(12,12)]
def fmO(g:Nat->Option AObj):FamS:=[(pM,g,[]),(pL,λ_=>none,[])]
noncomputable def kW(v:AV)(x:OV)(K:KV)(b a:KF):KX:=stepR (XO x) 1 nAk (hD0 v) bO pC (kC v K b) a
def elW(b a:Lh):El:={El.of (λ_ s els i=>bif Nat.beq s 111 then some (dat 1 b)else bif Nat.beq s 114 then some (dat 1 a)else some (.int .i64 (aa els i)))with app:=true,gm:=λ_=>true}
def XW(b a:Lh):SX:=⟨env,[],elW b a,λ_=>.raw⟩
def mW(a:Nat):Ld:=mO++[(13,13),(14,a)]
def jW(K:KV)(again again2 K3:KF)(v:AV)(x:OV)(s:LV)(g:Nat->Option AObj)(own:Le)(w:CV)(zs ls:Lh)(st st3:Le)(nc c i:Nat)(ρf:Nat->Lk):Prop:=
 bJ (XW zs ls) (XC v s g own w) 1 nAk (hD0 v) bC pW (kW v x K again again2) (cg 4 [] (ovO v s++[(13,groI own),(14,groI st3)]) (mW 8388544) slW 8388544 (fmO g) ρf K3) (frW s.bE.length own.length nc c st.length i) (hM (liO v s++[(13,groI own),(14,groI st)]) g 8388544)
def jWe(K:KV)(again again2 K3:KF)(v:AV)(x:OV)(s:LV)(g:Nat->Option AObj)(own:Le)(w:CV)(nc c:Nat):Prop:=
 bJ (XW [] []) (XC v s g own w) 1 nAk (hD0 v) bC pW (kW v x K again again2) K3 (frW s.bE.length own.length nc c w.st.length own.length) (hM (liO v s++[(13,groI own),(14,groI w.st)]) g 8388544)
end
end Go.T9
