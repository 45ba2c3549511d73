/- A part of the proof. -/
import Derived.Test.YtegefclhhjbfhaaGreatDoorY1
import Derived.Test.YtegefclhhjbfhaaGreatDoorX2
import Derived.Test.YtegefclhhjbfhaaGreatDoorX4
import Derived.Test.YtegefclhhjbfhaaGreatDoorX5
import Derived.Test.YtegefclhhjbfhaaGreatDoorX1
import Derived.Test.YtegefclhhjbfhaaGreatDoorF2
set_option linter.unusedVariables false
set_option linter.unusedSimpArgs false
set_option maxRecDepth 1000000
namespace Go.T9
open Go Go.AM Go.MK Go.Proofs.Tryz
noncomputable section
abbrev _root_.Go.I':=@List.getElem_set_self
abbrev _root_.Go.JY:=@List.map_take
abbrev Kc:=λa b c d e f=>r_ [h_ a b c,h_ d b e] f
variable {fr:Int}{q:Int->Bool}{cur l o:Le}{i j:Nat}
theorem KN(K:KV)(l:Le)(o:Le)(fr:Int)(m:Nat):jId K l o fr m=(Kb l/\Kb o/\LAtZ XId 2 f75.ntmps (hDl l o fr m) (au f75) [1,0,1,0] (finK (SX.E XId) f75.results.toList K) (Ns (J5 (I_ (Vi (u_ l.length))) (q_ 96 [] [f_ 1 0,f_ 2 0])) (b_ (some ⟨0,0,none⟩) l.length) (t_ (J9 0))) (V_ (Ns (Sg (Kc 4 0 o.length 5 m 85)) (r_ [f_ 3 0] 82) (Sg AObj.dead)) (i_ l) (J5 (Sg (i_ o)) (r_ [Vi fr] 3)) 6)):=by kernel_rfl
theorem jId_nf:type_of%(by have h:=@KN;revert h;delta b_ f_ h_ i_ l_ q_ r_ t_ u_ I_ V_ J5 J9 Kb Kc;exact id):=@KN
theorem KO(K:KV)(again:KF)(l:Le)(o:Le)(fr:Int)(m i:Nat):jIdL K again l o fr m i=(Sp (decide ((i:Int)<u_ l.length)) ((0<=(i:Int)/\(i:Int)<u_ l.length)/\nth (inV l) i=some (Vi (aa (inV l) i))/\(0<=aa (inV l) i/\aa (inV l) (i:Int)<u_ o.length)/\nth (inV o) (v_ (B_ (inV l) i))=some (Vi (aa (inV o) (B_ (inV l) i)))/\Sp (decide (aa (inV o) (B_ (inV l) i)=fr)) (K (Vi i) (V_ (Ns (Sg (Kc 4 0 o.length 5 m 85)) (r_ [f_ 3 0] 82) (Sg AObj.dead)) (i_ l) (J5 (Sg (i_ o)) (r_ [Vi fr] 3)) 16)) (Kb l/\Kb o/\again (Ns (J5 (I_ (Vi (u_ l.length))) (q_ 96 [] [f_ 1 0,f_ 2 0])) (b_ (some ⟨0,0,none⟩) l.length) (t_ (z_ ((i:Int)+1)))) (V_ (Ns (Sg (Kc 4 0 o.length 5 m 85)) (r_ [f_ 3 0] 82) (Sg AObj.dead)) (i_ l) (J5 (Sg (i_ o)) (r_ [Vi fr] 3)) 6))) (K (Vi (-1:Int)) (V_ (Ns (Sg (Kc 4 0 o.length 5 m 85)) (r_ [f_ 3 0] 82) (Sg AObj.dead)) (i_ l) (J5 (Sg (i_ o)) (r_ [Vi fr] 3)) 6))):=by kernel_rfl
theorem DL:type_of%(by have h:=@KO;revert h;delta b_ f_ h_ i_ l_ q_ r_ t_ u_ v_ z_ B_ I_ V_ J5 Kb Kc;exact id):=@KO
theorem KP(K:KV)(l:Le)(o:Le)(fr:Int)(m:Nat):jDl K l o fr m=(HFs [j_ (inV l),j_ (inV o),j_ (inV l),j_ (inV o)] (PH (Prod.fst (some ((([]:Lh)=[]/\([]:Lh)=[])/\(inV l=inV (Q_ l)/\List.length l=List.length (inV l))/\(inV o=inV (Q_ o)/\List.length o=List.length (inV o))/\(∀(x:Int),x∈List.map deI (inV l)->0<=x/\x<(↑(List.length (inV o)):Int))/\List.length (inV l)<4611686018427387904),Vi (ixD (Q_ o) fr (Q_ l) 0),[i_ l,r_ [f_ 3 0] 82,r_ [Vi fr] 3,Kc 4 0 o.length 5 m 85,i_ o,AObj.dead])))/\Sp (decide (ixD (Q_ o) fr (Q_ l) (0:Nat)=(-1:Int))) (K (b_ (some ⟨0,0,none⟩) l.length) (V_ (Ns (Sg (Kc 4 0 o.length 5 m 85)) (r_ [f_ 3 0] 82) (Sg AObj.dead)) (i_ l) (J5 (Sg (i_ o)) (r_ [Vi fr] 3)) 6)) (Kb l/\Kb o/\LAtZ XDl 2 f95.ntmps (hDl l o fr m) (au f95) [1,1,1,0,1,0] (finK (SX.E XDl) f95.results.toList K) (Ns (Ns Lf (q_ 96 [] [f_ 1 0,f_ 2 0]) (J9 (ixD (Q_ o) fr (Q_ l) 0))) (b_ (some ⟨0,0,none⟩) l.length) (No Lf (z_ (ixD (Q_ o) fr (Q_ l) 0+1)))) (V_ (Ns (Sg (Kc 4 0 o.length 5 m 85)) (r_ [f_ 3 0] 82) (Sg AObj.dead)) (i_ l) (J5 (Sg (i_ o)) (r_ [Vi fr] 3)) 6))):=by kernel_rfl
theorem jDl_nf:type_of%(by have h:=@KP;revert h;delta b_ f_ h_ i_ j_ l_ q_ r_ z_ Q_ V_ J5 J9 Kb Kc;exact id):=@KP
theorem KQ(K:KV)(again:KF)(l0:Le)(l:Le)(o:Le)(fr:Int)(m i j:Nat):jDlL K again l0 l o fr m i j=(Sp (decide ((j:Int)<u_ l.length)) ((0<=(j:Int)/\(j:Int)<u_ l.length)/\nth (inV l) j=some (Vi (aa (inV l) j))/\(0<=aa (inV l) j/\aa (inV l) (j:Int)<u_ o.length)/\nth (inV o) (v_ (B_ (inV l) j))=some (Vi (aa (inV o) (B_ (inV l) j)))/\Sp (! decide (aa (inV o) (B_ (inV l) j)=fr)) ((0<=(i:Int)/\(i:Int)<u_ l.length)/\i<List.length (inV l)/\l_ (List.set (inV l) i (Vi (aa (inV l) j)))/\Kb o/\again (Ns (Ns Lf (q_ 96 [] [f_ 1 0,f_ 2 0]) (z_ ((i:Int)+1))) (b_ (some ⟨0,0,none⟩) l.length) (No Lf (z_ ((j:Int)+1)))) (V_ (Ns (Sg (Kc 4 0 o.length 5 m 85)) (r_ [f_ 3 0] 82) (Sg AObj.dead)) (o_ (List.set (inV l) i (Vi (aa (inV l) j))) 3) (J5 (Sg (i_ o)) (r_ [Vi fr] 3)) 6)) (Kb l/\Kb o/\again (Ns (Ns Lf (q_ 96 [] [f_ 1 0,f_ 2 0]) (J9 i)) (b_ (some ⟨0,0,none⟩) l.length) (No Lf (z_ ((j:Int)+1)))) (V_ (Ns (Sg (Kc 4 0 o.length 5 m 85)) (r_ [f_ 3 0] 82) (Sg AObj.dead)) (i_ l) (J5 (Sg (i_ o)) (r_ [Vi fr] 3)) 6))) ((0<=(i:Int)/\(i:Int)<=u_ l.length)/\Int.toNat (i:Int)+0+(List.length l-Int.toNat i)<=List.length (inV l)/\(0<=(i:Int)/\(i:Int)<=u_ l.length)/\K (b_ (some ⟨0,0,none⟩) (v_ i)) (V_ (Ns (Sg (Kc 4 0 o.length 5 m 85)) (r_ [f_ 3 0] 82) (Sg AObj.dead)) (o_ (List.take (Int.toNat (i:Int)+0) (inV l)++(List.replicate (List.length l-Int.toNat i) (Vi 0)++List.drop (Int.toNat (i:Int)+0+List.length (List.replicate (List.length l-Int.toNat i) (Vi 0))) (inV l))) 3) (J5 (Sg (i_ o)) (r_ [Vi fr] 3)) 6))):=by kernel_rfl
theorem DQ:type_of%(by have h:=@KQ;revert h;delta b_ f_ h_ i_ l_ o_ q_ r_ u_ v_ z_ B_ V_ J5 J9 Kb Kc;exact id):=@KQ
theorem Br(Q:Value->AH->Prop)(l o:Le)(fr x:Int)(m n:Nat):endF env (hDl l o fr m) [] [] [] Q (.int .i64 x) ⟨(hDl l o fr m).t,n⟩=(HF (.agg ⟨inV l⟩)/\HF (.agg ⟨inV o⟩)/\Q (.int .i64 x) (hDl l o fr m)):=by kernel_rfl
def hDv(els:Lh)(o:Le)(fr:Int)(m:Nat):AH:=⟨(Nd (Nd (Nd Lf (some (.cells [groS 4 o.length,groS 5 m] 85)) Lf) (some (.cells [.pointer (some ⟨3,0,none⟩)] 82)) (Nd Lf (some (.dead)) Lf)) (some (.gro els [] 3)) (Nd (Nd Lf (some (groI o)) Lf) (some (.cells [.int .i64 fr] 3)) Lf)),6⟩
theorem Bs(Q:Value->AH->Prop)(a:Le)(els:Lh)(o:Le)(fr:Int)(m n:Nat):endF env (hDl a o fr m) [] [] [] Q (groS 0 n) (hDv els o fr m)=(HF (.agg ⟨els⟩)/\HF (.agg ⟨inV o⟩)/\Q (groS 0 n) (hDv els o fr m)):=by kernel_rfl
theorem pU{x:Int}(h:x.toNat<o.length):hitD o fr x=decide (o[x.toNat]=fr):=by unfold hitD;rw[gD h]
theorem Ez{m:Nat}(f:∀ x∈l,0<=x/\x<o.length)(n:l.length<4611686018427387904):WalkF env f75 [groS 0 l.length,cDel 1 2] (hDl l o fr m) (.int .i64 (ixD o fr l 0)) (hDl l o fr m):=by
 refine aq BL (d:=2) (ns:=[]) (zs:=[]) (ws:=[]) ((jId_nf _ l o fr m).mpr ⟨ab _,ab _,?_⟩);refine LAtZ.stepF BL [] [] [] [0,1,7,8] (by kernel_rfl) (λk F A=>∃ i:Nat,F=frId l.length i/\A=hDl l o fr m/\i+k=l.length/\ixD o fr l 0=ixD o fr (l.drop i) i) ?_ (k:=l.length) ⟨0,rfl,rfl,by omega,by simp⟩;rintro k F A ⟨i,rfl,rfl,g,a⟩;refine(DL _ _ l o fr m i).mpr (Sp.intro (λc=>?_) (λc=>?_));have c:=odt c;have b:i<l.length:=by omega
 have h:=f _ (GH b);rw[aK b];have e:l[i].toNat<o.length:=by omega
 rw[HC b]at a;have a:ixD o fr l 0=bif hitD o fr l[i]then(i:Int)else ixD o fr (l.drop (i+1)) (i+1):=a;rw[pU e]at a;rw[Ht,Gz,aK e];refine⟨⟨by omega,by omega⟩,bi b,⟨by omega,by omega⟩,bi e,Sp.intro (λd=>?_) (λd=>?_)⟩;rw[d]at a;exact(Br _ l o fr i m 16).mpr ⟨ab _,ab _,by rw[a];rfl,rfl⟩;rw[d]at a;refine⟨ab _,ab _,k-1,by omega,i+1,?_,rfl,by omega,a⟩;rw[aM (x:=(i:Int)+1) (by omega) (by omega)];rfl;have c:=odf c;rw[HZ (by omega)]at a;exact(Br _ l o fr (-1) m 6).mpr ⟨ab _,ab _,by rw[a];rfl,rfl⟩
theorem pV(l o:Le)(fr:Int)(m:Nat):aS [groI l,.cells [.pointer (some ⟨3,0,none⟩)] 82,.cells [.int .i64 fr] 3,.cells [groS 4 o.length,groS 5 m] 85,groI o,.dead]=hDl l o fr m:=by kernel_rfl
theorem id_tab:∀ args A p v A',frmQ noAr [5] spId args A=some (p,v,A')->PH p->CallAt env 75 args A v A':=wK ak (fn:=f75) rfl λargs d p v c h y=>by unfold spId at h;split at h;rename_i B b n k g R M Q b2 l t e P L I fr H O K w E N J u D G o a F;obtain⟨f,h⟩:=bA h;simp only[GC]at h;obtain⟨rfl,rfl,rfl⟩:=h;simp only[f',GL]at f;obtain⟨⟨⟨⟨rfl,rfl⟩,rfl,rfl⟩,⟨rfl,rfl⟩,rfl,rfl⟩,⟨⟨⟨rfl,rfl⟩,rfl,rfl⟩,⟨rfl,rfl⟩,rfl,rfl⟩,⟨rfl,rfl⟩,rfl,rfl,rfl⟩:=f;obtain⟨⟨rfl,rfl⟩,⟨C,rfl⟩,⟨z,rfl⟩,s,r⟩:(t=[]/\a=[])/\(l=inV (l.map deI)/\n=l.length)/\(o=inV (o.map deI)/\w=o.length)/\(∀x∈l.map deI,0<=x/\x<o.length)/\l.length<4611686018427387904:=y;generalize l.map deI=lI at*;generalize o.map deI=oI at*;subst C;subst z;rw[aj]at s r ⊢;rw[aj];have:=Ez (fr:=fr) (m:=u) s r;rw[<-pV]at this;exact this;cases h
structure DI (q:Int->Bool) (l cur:Le) (i j:Nat):Prop where
 len:cur.length=l.length
 ij:i<j
 jl:j<=l.length
 tk:cur.take i=(l.take j).filter λx=> !q x
 dr:cur.drop j=l.drop j
theorem DI.hit(h:DI q l cur i j)(b:j<l.length)(a:q l[j]=true):DI q l cur i (j+1):=by refine⟨h.len,by have:=h.ij;omega,by omega,?_,?_⟩;rw[h.tk,Hd b,In];simp[a];rw[<-IW,<-IW,h.dr]
theorem DI.keep(h:DI q l cur i j)(c:j<l.length)(a:q l[j]=false):DI q l (cur.set i l[j]) (i+1) (j+1):=by
 have b:=h.len;have d:=h.ij;refine⟨by rw[GP];exact b,by omega,by omega,?_,?_⟩;have e:i<(cur.set i l[j]).length:=by rw[GP];omega
 rw[Hd e,I',List.take_set_of_le (GK _),h.tk,Hd c,In];simp[a];rw[List.drop_set_of_lt (by omega),<-IW,<-IW,h.dr]
theorem DI.at'(h:DI q l cur i j)(a:j<l.length)(b:j<cur.length):cur[j]=l[j]:=by have:=HD (λx=>x[0]?) h.dr;simp only[GV,Ht]at this;rw[E' b,E' a]at this;exact Hk this
theorem rJ{o:Le}{fr:Int}:∀ (l:Le) (i:Nat),ixD o fr l i≠ -1->∃ k,ixD o fr l i=((i+k:Nat):Int)/\∃ h:k<l.length,hitD o fr l[k]=true/\(l.take k).filter (λx=> !hitD o fr x)=l.take k
 | [],i,h=>absurd rfl h
 | x::l,i,h=>by
  have e:ixD o fr (x::l) i=bif hitD o fr x then(i:Int)else ixD o fr l (i+1):=rfl;cases a:hitD o fr x with
  |true=>rw[e,a];exact⟨0,rfl,by simp,a,rfl⟩
  |false=>rw[e,a]at h ⊢;obtain⟨k,f,d,c,b⟩:=rJ l (i+1) h;refine⟨k+1,by rw[GT,f];congr 1;omega,by simpa using d,by simpa using c,?_⟩;rw[List.take_succ_cons,List.filter_cons,Gw (by rw[a];rfl),b]
theorem rK{o:Le}{fr:Int}:∀ (l:Le) (i:Nat),ixD o fr l i= -1->bD o fr l=l
 | [],i,h=>rfl
 | x::l,i,h=>by
  have e:ixD o fr (x::l) i=bif hitD o fr x then(i:Int)else ixD o fr l (i+1):=rfl;cases a:hitD o fr x with
  |true=>rw[e,a,C']at h;omega
  |false=>rw[e,a]at h;unfold bD;rw[List.filter_cons,Gw (by rw[a];rfl)];have:=rK l (i+1) h;unfold bD at this;rw[this]
theorem BM:XDl.Ok:=⟨ak,aA,an,.cons id_tab .nil⟩
def zerI(n:Nat):Le:=List.replicate n 0
theorem FB{m:Nat}(t:∀ x∈l,0<=x/\x<o.length)(y:l.length<4611686018427387904):
 WalkF env f95 [groS 0 l.length,cDel 1 2] (hDl l o fr m) (groS 0 (bD o fr l).length) (hDl (bD o fr l++zerI (l.length-(bD o fr l).length)) o fr m):=by
 have s:∀ (Q:Value->AH->Prop) {cur:Le}{i j:Nat},DI (hitD o fr) l cur i j->l.length<=j->Q (groS 0 (bD o fr l).length) (hDl (bD o fr l++zerI (l.length-(bD o fr l).length)) o fr m)->Q (groS 0 i) (hDv (List.take (i+0) (inV cur)++(List.replicate (l.length-i) (Vi 0)++List.drop (i+0+(List.replicate (l.length-i) (Vi 0)).length) (inV cur))) o fr m):=λQ {cur i j} b g w=>by
  have a:=b.len;have p:=b.ij;have z:=b.jl;have u:bD o fr l=cur.take i:=by rw[b.tk,IL (by omega)];rfl
  have r:(bD o fr l).length=i:=by rw[u,Hh];omega
  rw[r]at w;rw[HA,HZ (by rw[aj];omega),GG,Ht];have e:List.take i (inV cur)++List.replicate (l.length-i) (Vi 0)=inV (bD o fr l++zerI (l.length-i)):=by unfold inV zerI;rw[u,GX,JY,I8]
  rw[e];exact w
 refine aq BM (d:=2) (ns:=[]) (zs:=[]) (ws:=[]) ((jDl_nf _ l o fr m).mpr ?_);rw[cY,cY];refine⟨⟨ab _,ab _,ab _,ab _,⟨rfl,rfl⟩,⟨rfl,(aj l).symm⟩,⟨rfl,(aj o).symm⟩,by rw[aj];exact t,by rw[aj];exact y⟩,Sp.intro (λc=>?_) (λc=>?_)⟩;have c:=odt c;have e:=rK l 0 c;rw[e,Ij];have I:l++zerI 0=l:=by unfold zerI;simp
 rw[I];exact(Bs _ l (inV l) o fr m l.length).mpr ⟨ab _,ab _,rfl,rfl⟩
 · have c:=odf c;obtain⟨h,G,E,D,C⟩:=rJ l 0 c;rw[G,H8,aM (x:=(h:Int)+1) (by omega) (by omega)];refine⟨ab _,ab _,?_⟩;refine LAtZ.stepF BM [] [] [] [0,1,5,6] (by kernel_rfl) (λk F A=>∃ (cur:Le) (i j:Nat),F=frDl l.length i j/\A=hDl cur o fr m/\j+k=l.length/\DI (hitD o fr) l cur i j) ?_ (k:=l.length-(h+1)) ⟨l,h,h+1,rfl,rfl,by omega,rfl,by omega,by omega,?_,rfl⟩;rotate_left;rw[Hd E,In,C];simp[D];rintro k F A ⟨cur,i,j,rfl,rfl,B,b⟩;have a:=b.len;have p:=b.ij;rw[<-a];refine(DQ _ _ l cur o fr m i j).mpr (Sp.intro (λc=>?_) (λc=>?_));have c:=odt c;have g:j<cur.length:=by omega
   have f:j<l.length:=by omega
   have K:=t _ (GH f);have n:l[j].toNat<o.length:=by omega
   have r:i<cur.length:=by omega
   have H:(inV cur).set i (Vi l[j])=inV (cur.set i l[j]):=by unfold inV;rw[Iu]
   rw[aK g,b.at' f g,Ht,Gz,aK n,H];refine⟨⟨by omega,by omega⟩,by rw[bi g,b.at' f g],⟨by omega,by omega⟩,bi n,Sp.intro (λd=>?_) (λd=>?_)⟩;refine⟨⟨by omega,by omega⟩,by rw[aj];exact r,ab _,ab _,k-1,by omega,cur.set i l[j],i+1,j+1,?_,rfl,by omega,b.keep f (by rw[pU n];simpa using d)⟩;rw[aM (x:=(i:Int)+1) (by omega) (by omega),aM (x:=(j:Int)+1) (by omega) (by omega),a];rfl;refine⟨ab _,ab _,k-1,by omega,cur,i,j+1,?_,rfl,by omega,b.hit f (by rw[pU n];simpa using d)⟩;rw[aM (x:=(j:Int)+1) (by omega) (by omega),a];rfl;have c:=odf c;rw[Gz,aj,a];refine⟨⟨by omega,by omega⟩,by omega,⟨by omega,by omega⟩,?_⟩;exact s (λv A=>endF env (hDl l o fr m) [] [] [] (λv1 J=>v1=groS 0 (bD o fr l).length/\J=hDl (bD o fr l++zerI (l.length-(bD o fr l).length)) o fr m) v A) b (by omega) ((Bs _ l (inV (bD o fr l++zerI (l.length-(bD o fr l).length))) o fr m _).mpr ⟨ab _,ab _,rfl,rfl⟩)
def spDl:Lh->List AObj->Option (Ll×Value×List AObj)
 | [.slice (some ⟨B,b,none⟩) n k,.func (.func g) ⟨[]⟩ ⟨[.pointer (some ⟨B1,b1,none⟩),.pointer (some ⟨B2,b2,none⟩)]⟩],[.gro l tl e,.cells [.pointer (some ⟨B3,b3,none⟩)] e1,.cells [.int .i64 fr] e2,.cells [.slice (some ⟨B4,b4,none⟩) n4 k4,.slice (some ⟨B5,b5,none⟩) n5 k5] e3,.gro o tl4 e4,.dead]=>
  bif (((Nat.beq B 0&&Nat.beq b 0)&&(Nat.beq k (unk+3+1)&&Nat.beq g 96))&&((Nat.beq B1 1&&Nat.beq b1 0)&&(Nat.beq B2 2&&Nat.beq b2 0)))&&((((Nat.beq B3 3&&Nat.beq b3 0)&&(Nat.beq B4 4&&Nat.beq b4 0))&&((Nat.beq B5 5&&Nat.beq b5 0)&&(Nat.beq k4 (unk+3+1)&&Nat.beq k5 (unk+3+1))))&&((Nat.beq e 3&&Nat.beq e1 82)&&(Nat.beq e2 3&&(Nat.beq e3 85&&Nat.beq e4 3))))then
   some (some ((tl=[]/\tl4=[])/\(l=inV (l.map deI)/\n=l.length)/\(o=inV (o.map deI)/\n4=o.length)/\(∀x∈l.map deI,0<=x/\x<o.length)/\l.length<4611686018427387904),
    .slice (some ⟨B,b,none⟩) (bD (o.map deI) fr (l.map deI)).length k,[.gro (inV (bD (o.map deI) fr (l.map deI)++zerI (l.length-(bD (o.map deI) fr (l.map deI)).length))) [] e,.cells [.pointer (some ⟨B3,b3,none⟩)] e1,.cells [.int .i64 fr] e2,.cells [.slice (some ⟨B4,b4,none⟩) n4 k4,.slice (some ⟨B5,b5,none⟩) n5 k5] e3,.gro o [] e4,.dead])else none
 |_,_=>none
theorem dl_tab:∀ args A p v A',frmQ noAr [5] spDl args A=some (p,v,A')->PH p->CallAt env 95 args A v A':=wK ak (fn:=f95) rfl λargs d p v c h y=>by unfold spDl at h;split at h;rename_i B b n k g R M Q b2 l t e P L I fr H O K w E N J u D G o a F;obtain⟨f,h⟩:=bA h;simp only[GC]at h;obtain⟨rfl,rfl,rfl⟩:=h;simp only[f',GL]at f;obtain⟨⟨⟨⟨rfl,rfl⟩,rfl,rfl⟩,⟨rfl,rfl⟩,rfl,rfl⟩,⟨⟨⟨rfl,rfl⟩,rfl,rfl⟩,⟨rfl,rfl⟩,rfl,rfl⟩,⟨rfl,rfl⟩,rfl,rfl,rfl⟩:=f;obtain⟨⟨rfl,rfl⟩,⟨C,rfl⟩,⟨z,rfl⟩,s,r⟩:(t=[]/\a=[])/\(l=inV (l.map deI)/\n=l.length)/\(o=inV (o.map deI)/\w=o.length)/\(∀x∈l.map deI,0<=x/\x<o.length)/\l.length<4611686018427387904:=y;generalize l.map deI=lI at*;generalize o.map deI=oI at*;subst C;subst z;rw[aj]at s r ⊢;rw[aj];have:=FB (fr:=fr) (m:=u) s r;rw[<-pV,<-pV]at this;exact this;cases h
def pM:Li:=[true,true,true,true,true,true]
def pH:Li:=[false,false,false,false,false,false]
def hQ(lits:List (Nat×AObj))(gM gH:Nat->Option AObj)(nx:Nat):AH:=match ofL lits Lf with
 | some t=>(match iR [(pM,gM),(pH,gH)] t with
   |some t1=>⟨t1,nx⟩
   |none=>⟨.leaf,nx⟩)
 |none=>⟨.leaf,nx⟩
def cCut(a b c:Nat):Value:=.func (.func 76) ⟨[]⟩ ⟨[.pointer (some ⟨a,0,none⟩),.pointer (some ⟨b,0,none⟩),.pointer (some ⟨c,0,none⟩)]⟩
def groE(els:Lh):AObj:=.gro els [] 49
def liQ(o:Le)(els:Lh)(st:Le)(wes:Ents)(wc:Nat)(wk:Le):List (Nat×AObj):=
 [(0,.cells [groS 1 o.length,groS 2 els.length] 85),(1,groI o),(2,groE els),(3,groI st),(4,.cells [.map (some 5)] 127),(5,.map wes wc),(6,.cells [.pointer (some ⟨0,0,none⟩)] 82),(7,.cells [groS 8 wk.length] 49),(8,groI wk)]
def liQ1(o:Le)(els:Lh)(st:Le)(wes:Ents)(wc:Nat)(wk:Le)(es:Ents)(ck:Nat)(mt:Le):List (Nat×AObj):=
 liQ o els st wes wc wk++[(9,.cells [.pointer (some ⟨0,0,none⟩)] 82),(10,.map es ck),(11,groI mt)]
def liQ2(o:Le)(els:Lh)(st:Le)(wes:Ents)(wc:Nat)(wk:Le)(es:Ents)(ck:Nat)(mt:Le):List (Nat×AObj):=
 [(0,.cells [groS 1 o.length,groS 12 els.length] 85),(1,groI o),(3,groI st),(4,.cells [.map (some 5)] 127),(5,.map wes wc),(6,.cells [.pointer (some ⟨0,0,none⟩)] 82),(7,.cells [groS 13 wk.length] 49),(9,.cells [.pointer (some ⟨0,0,none⟩)] 82),(10,.map es ck),(11,groI mt),(12,groE els),(13,groI wk)]
def frQ1(n m i:Nat):T Value:=(Nd (Nd (Nd (Nd Lf (some (groS 11 m)) (Nd Lf (some (.int .i64 i)) Lf)) (some (.pointer (some ⟨9,0,none⟩))) Lf) none (Nd Lf none (Nd (Nd Lf (some (groS 3 n)) Lf) none Lf))) none (Nd Lf (some (cCut 4 6 7)) (Nd Lf (some (.map (some 10))) (Nd (Nd Lf (some (.int .i64 n)) Lf) none Lf))))
def frQ2(m i:Nat):T Value:=(Nd (Nd (Nd Lf (some (.pointer (some ⟨9,0,none⟩))) Lf) none (Nd Lf none (Nd (Nd Lf none (Nd Lf (some (.int .i64 m)) Lf)) none Lf))) none (Nd (Nd Lf none (Nd (Nd Lf none (Nd Lf (some (groS 11 m)) Lf)) none Lf)) (some (cCut 4 6 7)) (Nd Lf (some (.map (some 10))) (Nd (Nd Lf none (Nd Lf (some (.int .i64 i)) Lf)) none Lf))))
def frQ4(m i b r fr c:Nat):T Value:=(Nd (Nd (Nd (Nd (Nd Lf none (Nd (Nd Lf (some (.int .i64 c)) Lf) none Lf)) none Lf) (some (.pointer (some ⟨9,0,none⟩))) Lf) none (Nd Lf none (Nd (Nd Lf none (Nd Lf (some (.int .i64 m)) Lf)) (some (groS 8388544 r)) (Nd (Nd (Nd Lf (some (groS 8388544 r)) Lf) none Lf) none Lf)))) none (Nd (Nd Lf none (Nd (Nd Lf none (Nd Lf (some (groS 11 m)) Lf)) (some (.int .i64 b)) Lf)) (some (cCut 4 6 7)) (Nd Lf (some (.map (some 10))) (Nd (Nd Lf none (Nd Lf (some (.int .i64 i)) Lf)) (some (.pointer (some ⟨8388546,0,none⟩))) (Nd (Nd (Nd Lf (some (.int .i64 r)) Lf) none Lf) none Lf)))))
def elQ:El:={El.of (λ_ _ els i=>some (.int .i64 (aa els i)))with app:=true,gm:=λ_=>true,hk:=λd=>match d with|some 7=>[(.slot 7,3,1)]|_=>[]}
def XQ:SX:=⟨env,[],elQ,λ_=>.raw⟩
def iC(K:KV):KX:=finK XQ.E (f77.results).toList K
noncomputable def nQ:Nat:=Func.ntmps f77
noncomputable def bQ:Code:=au f77
def jQ0(K:KV)(t0:T AObj)(o:Le)(els:Lh)(st:Le)(wes:Ents)(wc:Nat)(wk:Le)(gM:Nat->Option AObj):Prop:=Cl XQ 1 f77 ⟨t0,9⟩ [.pointer (some ⟨0,0,none⟩),groS 3 st.length,cCut 4 6 7] (hQ (liQ o els st wes wc wk) gM (λ_=>none) 8388544) K
def elQ1(v:Value)(ok:Bool)(es2:Ents)(c2:Nat)(hk:List (NPos×TypeId×Nat)):El:={El.of (λ_ _ els i=>some (.int .i64 (aa els i)))with app:=true,gm:=λ_=>true,ml:=λ_ _ _=>some (v,ok),mu:=λ_ _ _ _ _=>some (es2,c2),hk:=λd=>match d with|some 47=>hk|_=>[]}
def XQ1(v:Value)(ok:Bool)(es2:Ents)(c2:Nat)(hk:List (NPos×TypeId×Nat)):SX:=⟨env,[],elQ1 v ok es2 c2 hk,λ_=>.raw⟩
def mQ(l:Ld):Ld:=[(0,0),(1,1),(2,2),(3,3),(4,4),(5,5),(6,6),(7,7),(8,8)]++l
def mQ2(l:Ld):Ld:=[(0,0),(1,1),(3,3),(4,4),(5,5),(6,6),(7,7),(9,9),(10,10),(11,11)]++l
def ovQ1(o:Le)(els:Lh)(st:Le)(wes:Ents)(wc:Nat)(wk:Le)(es:Ents)(ck:Nat)(mt:Le):List (Nat×AObj):=[(1,groI o),(2,groE els),(3,groI st),(5,.map wes wc),(8,groI wk),(10,.map es ck),(11,groI mt)]
def ovQ2(o:Le)(els:Lh)(st:Le)(wes:Ents)(wc:Nat)(wk:Le)(es:Ents)(ck:Nat)(mt:Le):List (Nat×AObj):=[(1,groI o),(3,groI st),(5,.map wes wc),(10,.map es ck),(11,groI mt),(12,groE els),(13,groI wk)]
def slQ1:Lg:=[2,3,6,7,21,22,23]
def slQ2:Lg:=[2,3,6,52,53,54]
def slQ4:Lg:=[2,3,6,12,13,14,52,53,54,77,78,79]
def pQ1:Lg:=[1,1,1,1,0,1,0]
def pQ2:Lg:=[1,1,1,1,1,1,0]
def jQ1a(K:KV)(K2:KF)(t0:T AObj)(o:Le)(els:Lh)(st:Le)(wes:Ents)(wc:Nat)(wk:Le)(es:Ents)(ck:Nat)(mt:Le)(gM gH gH':Nat->Option AObj)(i j:Nat)(r:Le)(es2 es3:Ents)(ρf:Nat->Lk):Prop:=
 bJ (XQ1 (groS 8388544 r.length) true es2 ck []) XQ 1 nQ ⟨t0,9⟩ bQ pQ1 (iC K) (cg 9 [] (ovQ1 o els st wes wc wk es3 ck mt) (mQ [(9,9),(10,10),(11,11)]) slQ1 8388544 [(pM,gM,[]),(pH,gH',[(j,8388546)])] ρf K2) (frQ1 st.length mt.length i) (hQ (liQ1 o els st wes wc wk es ck mt++[(8388544,groI r)]) gM gH 8388545)
def jQ1b(K:KV)(K2:KF)(t0:T AObj)(o:Le)(els:Lh)(st:Le)(wes:Ents)(wc:Nat)(wk:Le)(es:Ents)(ck:Nat)(mt mt2:Le)(gM gH gH':Nat->Option AObj)(i j:Nat)(es2 es3:Ents)(ρf:Nat->Lk):Prop:=
 bJ (XQ1 nilS false es2 (ck+1) [(.slot 47,3,1)]) XQ 1 nQ ⟨t0,9⟩ bQ pQ1 (iC K) (cg 9 [] (ovQ1 o els st wes wc wk es3 (ck+1) mt2) (mQ [(9,9),(10,10),(11,8388545)]) slQ1 8388544 [(pM,gM,[]),(pH,gH',[(j,8388548)])] ρf K2) (frQ1 st.length mt.length i) (hQ (liQ1 o els st wes wc wk es ck mt) gM gH 8388544)
def elQ2(kr kb kd:Nat)(wv okw:Bool)(wE:Value->Ents)(wC:Value->Nat):El:={El.of (λ_ s els i=>bif Nat.beq s 68||Nat.beq s 111 then some (groS 8388545 kb)else bif Nat.beq s 19 then some (groS 8388545 kd)else bif Nat.beq s 27 then some (groS 8388544 kr)else some (.int .i64 (aa els i)))with app:=true,gm:=λ_=>true,ml:=λt _ _=>bif Nat.beq t 146 then some (groS 8388544 kr,true)else some (.bool wv,okw),mu:=λ_ _ _ k _=>some (wE k,wC k)}
def XQ2(kr kb kd:Nat)(wv okw:Bool)(wE:Value->Ents)(wC:Value->Nat):SX:=⟨env,[(95,frmQ noAr [5] spDl)],elQ2 kr kb kd wv okw wE wC,λ_=>.raw⟩
def kQ2(K:KV)(again:KF)(t0:T AObj):KX:=stepR XQ 1 nQ ⟨t0,9⟩ bQ pQ2 (iC K) again
def pQ4:Lg:=[1,1,0,0,1,1,1,1,0,1,0]
def tlQs(o:Le)(els:Lh)(st:Le)(wes:Ents)(wc:Nat)(wk:Le)(es3:Ents)(ck:Nat)(mt:Le)(gM' gH':Nat->Option AObj)(b j:Nat)(ρf:Nat->Lk):KF->KF:=cg 9 [2,8] (ovQ2 o els st wes wc wk es3 ck mt) (mQ2 [(12,12),(13,13)]) slQ2 8388544 [(pM,gM',[(b,8388545)]),(pH,gH',[(j,8388544)])] ρf
def tlQd(o:Le)(els:Lh)(st:Le)(wes:Ents)(wc:Nat)(wk:Le)(es3:Ents)(ck:Nat)(mt:Le)(gM' gH':Nat->Option AObj)(b j:Nat)(ρf:Nat->Lk):KF->KF:=cg 9 [2,8] (ovQ2 o els st wes wc wk es3 ck mt) (mQ2 [(12,8388558),(13,8388599)]) slQ2 8388544 [(pM,gM',[(b,8388545)]),(pH,gH',[(j,8388544)])] ρf
def jQ2s(K:KV)(K3:KF)(t0:T AObj)(o:Le)(els els3:Lh)(st:Le)(wes:Ents)(wc:Nat)(wk:Le)(es es3:Ents)(ck:Nat)(mt:Le)(gM gH gM' gH':Nat->Option AObj)(i b j:Nat)(r q:Le)(ρf:Nat->Lk):Prop:=
 bJ (XQ2 r.length q.length 0 true true (λ_=>[]) (λ_=>0)) XQ 1 nQ ⟨t0,9⟩ bQ pQ2 (iC K) (tlQs o els3 st wes wc wk es3 ck mt gM' gH' b j ρf K3) (frQ2 mt.length i) (hQ (liQ2 o els st wes wc wk es ck mt++[(8388544,groI r),(8388545,groI q)]) gM gH 8388546)
def jQ2(K:KV)(again:KF)(t0:T AObj)(kd:Nat)(wv okw:Bool)(wE:Value->Ents)(wC:Value->Nat)(o:Le)(els:Lh)(st:Le)(wes:Ents)(wc:Nat)(wk:Le)(es:Ents)(ck:Nat)(mt:Le)(gM gH:Nat->Option AObj)(i:Nat)(r q:Le):Prop:=
 bJ (XQ2 r.length q.length kd wv okw wE wC) XQ 1 nQ ⟨t0,9⟩ bQ pQ2 (iC K) again (frQ2 mt.length i) (hQ (liQ2 o els st wes wc wk es ck mt++[(8388544,groI r),(8388545,groI q)]) gM gH 8388546)
def jQ2e(K:KV)(again:KF)(t0:T AObj)(o:Le)(els:Lh)(st:Le)(wes:Ents)(wc:Nat)(wk:Le)(es:Ents)(ck:Nat)(mt:Le)(gM gH:Nat->Option AObj):Prop:=
 bJ (XQ2 0 0 0 true true (λ_=>[]) (λ_=>0)) XQ 1 nQ ⟨t0,9⟩ bQ pQ2 (iC K) again (frQ2 mt.length mt.length) (hQ (liQ2 o els st wes wc wk es ck mt) gM gH 8388544)
def ovQ4(o:Le)(els:Lh)(st:Le)(wes:Ents)(wc:Nat)(wk:Le)(es:Ents)(ck:Nat)(mt:Le)(r q:Le):List (Nat×AObj):=ovQ2 o els st wes wc wk es ck mt++[(8388544,groI r),(8388545,groI q)]
def hQ4(o:Le)(els:Lh)(st:Le)(wes:Ents)(wc:Nat)(wk:Le)(es:Ents)(ck:Nat)(mt:Le)(gM gH:Nat->Option AObj)(r q:Le):AH:=hQ (liQ2 o els st wes wc wk es ck mt++[(8388544,groI r),(8388545,groI q),(8388546,.cells [.int .i64 els.length] 3)]) gM gH 8388547
def jQ4(K:KV)(K2 K3:KF)(t0:T AObj)(kd:Nat)(wv okw:Bool)(wE:Value->Ents)(wC:Value->Nat)(o o2 o3:Le)(els els3:Lh)(st:Le)(wes wes3:Ents)(wc wc3:Nat)(wk wk3:Le)(es es3:Ents)(ck:Nat)(mt:Le)(gM gH gM' gH':Nat->Option AObj)(i b c j:Nat)(r q:Le)(ρf ρ3:Nat->Lk):Prop:=
 bJ (XQ2 r.length q.length kd wv okw wE wC) (XQ2 r.length q.length kd wv okw wE wC) 1 nQ ⟨t0,9⟩ (aE (subC pQ2 bQ)) pQ4 (kQ2 K (tlQd o3 els3 st wes3 wc3 wk3 es3 ck mt gM' gH' b j ρ3 K3) t0) (cg 9 [2,8] (ovQ4 o2 els st wes wc wk es ck mt r q) (mQ2 [(12,12),(13,13),(8388544,8388544),(8388545,8388545),(8388546,8388546)]) slQ4 8388547 [(pM,gM,[]),(pH,gH,[])] ρf K2) (frQ4 mt.length i b r.length els.length c) (hQ4 o els st wes wc wk es ck mt gM gH r q)
def jQt1(K2:KF)(o:Le)(els:Lh)(st:Le)(wes:Ents)(wc:Nat)(wk:Le)(gM:Nat->Option AObj)(ρf:Nat->Lk):Prop:=
 cg 9 [] (ovQ1 o els st wes wc wk [] 0 []) (mQ [(9,8388544),(10,8388545),(11,8388546)]) slQ1 8388544 [(pM,gM,[]),(pH,λ_=>none,[])] ρf K2 ((.node (.node (.node (.node .leaf (some (groS 8388546 0)) (.node .leaf (some (.int .i64 0)) .leaf)) (some (.pointer (some ⟨8388544,0,none⟩))) .leaf) none (.node .leaf none (.node (.node .leaf (some (groS 3 st.length)) .leaf) none .leaf))) none (.node .leaf (some (cCut 4 6 7)) (.node .leaf (some (.map (some 8388545))) (.node (.node .leaf (some (.int .i64 st.length)) .leaf) none .leaf))))) (hQ (liQ o els st wes wc wk++[(8388544,.cells [.pointer (some ⟨0,0,none⟩)] 82),(8388545,.map [] 0),(8388546,.gro [] [] 3)]) gM (λ_=>none) 8388547)
def jQt2(K2:KF)(o:Le)(els:Lh)(st:Le)(wes:Ents)(wc:Nat)(wk:Le)(es:Ents)(ck:Nat)(mt:Le)(gM gH:Nat->Option AObj)(ρf:Nat->Lk):Prop:=
 cg 9 [2,8] (ovQ2 o els st wes wc wk es ck mt) (mQ2 [(12,2),(13,8)]) slQ2 8388544 [(pM,gM,[]),(pH,gH,[])] ρf K2 ((.node (.node (.node .leaf (some (.pointer (some ⟨9,0,none⟩))) .leaf) none (.node .leaf none (.node (.node .leaf none (.node .leaf (some (.int .i64 mt.length)) .leaf)) none .leaf))) none (.node (.node .leaf none (.node (.node .leaf none (.node .leaf (some (groS 11 mt.length)) .leaf)) none .leaf)) (some (cCut 4 6 7)) (.node .leaf (some (.map (some 10))) (.node (.node .leaf none (.node .leaf (some (.int .i64 0)) .leaf)) none .leaf))))) (hQ (liQ1 o els st wes wc wk es ck mt) gM gH 8388544)
end
end Go.T9
namespace Go.T9
open Go Go.AM Go.MK
noncomputable section
variable {l:La}{m:Ld}{p:Li}{B LH i jH jM nH nM:Nat}{ρ:Nat->Lk}
theorem numM(i:Nat):T.numF pM i=64*i+63:=by simp[pM,T.numF];omega
theorem numH(i:Nat):T.numF pH i=64*i+126:=by simp[pH,T.numF];omega
def fI(p:Li)(n j L i:Nat):Lk:=if i=j then some L else if i<n then some (T.numF p i)else none
def rQ(nM jM LM nH jH LH:Nat):Nat->Lk:=rho2 pM (fI pM nM jM LM) pH (fI pH nH jH LH)
def rD(ρ:Nat->Lk)(B:Nat):Lk:=if B=2 then some 2 else if B=8 then some 8 else ρ B
def okN(LM LH y:Nat):Bool:=decide (y≠LM/\y≠LH/\y%64≠63/\y%64≠62)
theorem wU{n j L x:Nat}(h:fI p n j L i=some x):(i=j/\x=L)∨(i≠j/\i<n/\x=T.numF p i):=by unfold fI at h;split at h;rename_i e;cases h;exact .inl ⟨e,rfl⟩;rename_i e;split at h;rename_i a;cases h;exact .inr ⟨e,a,rfl⟩;cases h
theorem mn{f x:Nat}(h:rQ nM jM f nH jH LH B=some x):
 (B=64*jM+63/\x=f)∨(∃i,i≠jM/\i<nM/\B=64*i+63/\x=64*i+63)∨(B=64*jH+126/\x=LH)∨(∃i,i≠jH/\i<nH/\B=64*i+126/\x=64*i+126):=by rcases nY h with⟨i,a,e⟩|⟨i,a,e⟩;rw[numM]at a;rcases wU e with⟨rfl,rfl⟩|⟨d,c,b⟩;exact .inl ⟨a,rfl⟩;exact .inr (.inl ⟨i,d,c,a,by rw[b,numM]⟩);rw[numH]at a;rcases wU e with⟨rfl,rfl⟩|⟨d,c,b⟩;exact .inr (.inr (.inl ⟨a,rfl⟩));exact .inr (.inr (.inr ⟨i,d,c,a,by rw[b,numH]⟩))
theorem rQ_H(nM jM a nH jH LH i:Nat):rQ nM jM a nH jH LH (T.numF pH i)=fI pH nH jH LH i:=rho2_q λi j h=>by rw[numM,numH]at h;omega
theorem i9{c:Nat}(b:i≠jM)(a:i<nM):rQ nM jM c nH jH LH (T.numF pM i)=some (T.numF pM i):=qU (by unfold fI;rw[D' b,Gw a])
theorem yx(nM jM a nH jH LH:Nat):rQ nM jM a nH jH LH (T.numF pM jM)=some a:=qU (by unfold fI;rw[Gw rfl])
theorem n7{c:Nat}(b:i≠jH)(a:i<nH):rQ nM jM c nH jH LH (T.numF pH i)=some (T.numF pH i):=by rw[rQ_H];unfold fI;rw[D' b,Gw a]
theorem ta(nM jM a nH jH LH:Nat):rQ nM jM a nH jH LH (T.numF pH jH)=some LH:=by rw[rQ_H];unfold fI;rw[Gw rfl]
theorem kU{d nx:Nat}(r:(m.all λx=>okN d LH x.2)=true)(k:okN LH 0 d=true)(c:okN d 0 LH=true)
 (D:nM<=100000) (C:jM<=100000) (A:nH<=100000) (z:jH<=100000) (y:0<=d) (w:0<=LH) (v:8388544<=nx):RQ m (rQ nM jM d nH jH LH) [] nx:=by have k:=odt k;have c:=odt c;refine⟨λu B h=>?_,λF E B _ _ t s=>?_,λx q u _ h=>?_⟩;rcases mn h with⟨j,g⟩|⟨i,_,_,j,g⟩|⟨j,g⟩|⟨i,_,_,j,g⟩<;>omega;rcases mn t with⟨b,a⟩|⟨i,_,_,b,a⟩|⟨b,a⟩|⟨i,_,_,b,a⟩<;>rcases mn s with⟨f,e⟩|⟨o,_,_,f,e⟩|⟨f,e⟩|⟨o,_,_,f,e⟩<;>omega;have n:=Hc.1 r x q;have n:=odt n;rcases mn h with⟨b,a⟩|⟨i,_,_,b,a⟩|⟨b,a⟩|⟨i,_,_,b,a⟩<;>omega
theorem Eu(h:inLb B [2,8]=false):B≠2/\B≠8:=by constructor<;>(intro e;subst e;cases h)
theorem uf{nx:Nat}(c:8388544<=nx)(h:RQ m ρ [] nx):RQ m (rD ρ) [2,8] nx:=by
 have e:∀ B,inLb B [2,8]=false->rD ρ B=ρ B:=λB f=>by obtain⟨a,b⟩:=Eu f;unfold rD;rw[D' a,D' b]
 refine⟨λd B a=>?_,λj g B l1 l2 a b=>?_,λx c d l a=>?_⟩;unfold rD at a;split at a;cases a;omega;split at a;cases a;omega;exact h.lt _ _ a;rw[e _ l1]at a;rw[e _ l2]at b;exact h.inj _ _ _ rfl rfl a b;rw[e _ l]at a;exact h.sep x c d rfl a
theorem idQ(l:Ld)(ρ:Nat->Lk):IdTo 9 (rhoX (mQ l) ρ):=λB a=>by
 have:B=0∨B=1∨B=2∨B=3∨B=4∨B=5∨B=6∨B=7∨B=8:=by omega
 rcases this with rfl|rfl|rfl|rfl|rfl|rfl|rfl|rfl|rfl<;>rfl
theorem kI(h:∀ x∈m,x.1≠B):back m B=none:=by
 cases e:back m B with
 |none=>rfl
 |some x=>exact absurd rfl (h _ (aX e))
def okB(m:Ld):Bool:=m.all λx=>decide (x.1%64≠63/\x.1%64≠62)
theorem cf(b:okB m=true)(ρ:Nat->Lk)(i:Nat):rhoX m ρ (T.numF pM i)=ρ (T.numF pM i):=by unfold rhoX;rw[kI λx a e=>by have:=Hc.1 b x a;have this:=odt this;rw[numM]at e;omega]
theorem iS(b:okB m=true)(ρ:Nat->Lk)(i:Nat):rhoX m ρ (T.numF pH i)=ρ (T.numF pH i):=by unfold rhoX;rw[kI λx a e=>by have:=Hc.1 b x a;have this:=odt this;rw[numH]at e;omega]
theorem rD_M(ρ:Nat->Lk)(i:Nat):rD ρ (T.numF pM i)=ρ (T.numF pM i):=by unfold rD;rw[numM,D' (by omega),D' (by omega)]
theorem rD_H(ρ:Nat->Lk)(i:Nat):rD ρ (T.numF pH i)=ρ (T.numF pH i):=by unfold rD;rw[numH,D' (by omega),D' (by omega)]
theorem zC(l:Lh):glue l []=l:=by unfold glue;simp
theorem zD(l t:Le):glue (inV l) (inV t)=inV (l++t):=by
 cases t with
 |nil=>rw[show inV ([]:Le)=[]from rfl,zC,GG]
 |cons x t=>show inV l++inV (x::t)=_;unfold inV;rw[GX]
theorem Bk(l:Le):∀ x∈am (inV l),HF x:=λx a=>by rw[fD (λy b=>by obtain⟨z,_,rfl⟩:=GA.1 b;rfl)]at a;obtain⟨z,_,rfl⟩:=GA.1 a;exact HFi _ _
theorem eQ(ρ:Nat->Lk)(l t:Le):ROX ρ (.gro (inV l) (inV t) 3) (groI (l++t)):=by have h:=RO.gro (ρ:=ρ) (els:=inV l) (tl:=inV t) (e:=3) (by unfold inV;rw[<-GX];exact Bk _);rw[zD]at h;exact .of h
theorem ai(ρ:Nat->Lk)(l:Le):ROX ρ (.gro (inV l) [] 3) (.gro (inV l) [] 3):=by have:=eQ ρ l [];rw[GG]at this;exact this
theorem rox_tk(ρ:Nat->Lk)(l t:Le):ROX ρ (.gro (inV (l++t)) [] 3) (groI l):=by have h:=ROX.shr (ρ:=ρ) (els:=inV (l++t)) (tl:=[]) (e:=3) l.length (by rw[GG];exact Bk _);rw[GG,show List.take l.length (inV (l++t))=inV l from by unfold inV;rw[<-JY,List.take_left'];rfl]at h;exact h
def sl(x:Nat×Nat):Value:=groS x.1 x.2
def sls(l:Ld):Lh:=l.map sl
theorem bd(l:Ld):(sls l).length=l.length:=GB _
theorem Ax{ρ:Nat->Lk}:∀ {l l':Ld},l'.length=l.length->(∀i,∀h:i<l.length,∀c:i<l'.length,l'[i].2=l[i].2/\ρ l'[i].1=some l[i].1)->RVs ρ (sls l) (sls l')
 | [],[],_,_=>.nil
 | x::l,y::l',hl,h=>by
  have a:=h 0 (by simp) (by simp);refine .cons ?_ (Ax (by simpa using hl) λi g d=>by have:=h (i+1) (by simp;omega) (by simp;omega);simpa using this)
  have e:y.2=x.2:=a.1;have b:ρ y.1=some x.1:=a.2;unfold sl groS;rw[e];exact .slice b
 | [],y::l',hl,_=>by simp at hl
 |x::l,[],hl,_=>by simp at hl
theorem kZ(l:Ld):∀ x∈sls l,fM x:=λx a=>by obtain⟨y,_,rfl⟩:=GA.1 a;exact fZ _ _ _
theorem Ay{l l':Ld}(a:l'.length=l.length)(h:∀ i,∀h:i<l.length,∀b:i<l'.length,l'[i].2=l[i].2/\ρ l'[i].1=some l[i].1):ROX ρ (.gro (sls l) [] 49) (.gro (sls l') [] 49):=
 .row (by rw[GG];exact kZ l) (kZ l') (by rw[GG];exact Ax a h)
def esS(m:List (Int×(Nat×Nat)×Nat)):Ents:=eg Vi sl m
theorem AA{ρ:Nat->Lk}:∀ {m e:List (Int×(Nat×Nat)×Nat)},e.length=m.length->(∀i,∀h:i<m.length,∀o:i<e.length,e[i].1=m[i].1/\e[i].2.2=m[i].2.2/\e[i].2.1.2=m[i].2.1.2/\ρ e[i].2.1.1=some m[i].2.1.1)->REs ρ (esS m) (esS e)
 | [],[],_,_=>.nil
 |(a,(b,c),d)::m,(a',(b',c'),d')::e,hl,h=>by obtain⟨n,k,j,f⟩:=h 0 (by simp) (by simp);simp only[List.getElem_cons_zero]at n k j f;subst n k j;exact .cons (.slice f) (AA (by simpa using hl) λi g q=>by have:=h (i+1) (by simp;omega) (by simp;omega);simpa using this)
 | [],y::l',hl,_=>by simp at hl
 |x::l,[],hl,_=>by simp at hl
theorem rox_es{m a:List (Int×(Nat×Nat)×Nat)}{c:Nat}(b:a.length=m.length)(h:∀ i,∀h:i<m.length,∀d:i<a.length,a[i].1=m[i].1/\a[i].2.2=m[i].2.2/\a[i].2.1.2=m[i].2.1.2/\ρ a[i].2.1.1=some m[i].2.1.1):ROX ρ (.map (esS m) c) (.map (esS a) c):=.of (.map (AA b h))
def esW(m:List (Int×Bool×Nat)):Ents:=eg Vi Value.bool m
theorem res_w(ρ:Nat->Lk):∀ (m:List (Int×Bool×Nat)),REs ρ (esW m) (esW m)
 | []=>.nil
 |(a,b,c)::m=>.cons (.hf (HFb _)) (res_w ρ m)
theorem dt(ρ:Nat->Lk)(m:List (Int×Bool×Nat))(c:Nat):ROX ρ (.map (esW m) c) (.map (esW m) c):=.of (.map (res_w ρ m))
def ae(l:La)(i:Nat):Option AObj:=(l[i]?).map groI
theorem bv{o:AObj}(h:ae l i=some o):∃ e:i<l.length,o=groI l[i]:=by unfold ae at h;rw[JH]at h;obtain⟨r,d,c⟩:=h;obtain⟨b,a⟩:=GE.1 d;exact⟨b,by rw[a,c]⟩
theorem bM(h:i<l.length):ae l i=some (groI l[i]):=by unfold ae;rw[E' h];rfl
theorem nJ{b:FamL}(c:(p,ae l)∈b)(h:∀ i,i<l.length->ρ (T.numF p i)=some (T.numF p i)):FQ ρ b p (ae l) []:=λi e a=>by obtain⟨d,rfl⟩:=bv a;exact .inr ⟨_,i,_,c,h i d,a,ai _ _⟩
theorem i8{c:FamL}{g:Nat->Option AObj}{l':La}{j L:Nat}{o:AObj}(d:(p,g)∈c)(k:ρ (T.numF p j)=some L)(f:∀ h:j<l'.length,ROX ρ o (groI l'[j]))(h:∀ i,∀a:i<l'.length,i≠j->ρ (T.numF p i)=some (T.numF p i)/\g i=some (groI l'[i])):FQ ρ c p (ae l') [(j,L,o)]:=λi r a=>by obtain⟨b,rfl⟩:=bv a;by_cases e:i=j;subst e;exact .inl ⟨_,GU,rfl,k,f b⟩;obtain⟨q,n⟩:=h i b e;exact .inr ⟨_,i,_,d,q,n,ai _ _⟩
end
end Go.T9
