/- A part of the proof. -/
import Derived.Test.YtegefclhhjbfhaaGreatDoorY2
set_option linter.unusedVariables false
set_option linter.unusedSimpArgs false
set_option maxRecDepth 1000000
namespace Go.T9
open Go Go.AM Go.MK Go.Proofs.Tryz
noncomputable section
theorem _root_.Go.I':type_of% @List.filter_append:=@List.filter_append
theorem _root_.Go.Jy:type_of% @List.getElem_set_self:=@List.getElem_set_self
theorem _root_.Go.Kl:type_of% @List.map_take:=@List.map_take
abbrev K8:=λa b=>Ns (KJ [g_ 4 0 a,g_ 5 0 b] 85) (m_ [c_ 3 0] 82) (Sg AObj.dead)
variable {fr:Int}{q:Int->Bool}{cur l o:Le}{i j:Nat}
theorem MO(K:KV)(l:Le)(o:Le)(a:Int)(m:Nat):jId K l o a m=(F_ l/\F_ o/\LAtZ XId 2 f75.ntmps (hDl l o a m) (ay f75) [1,0,1,0] (finK (SX.E XId) f75.results.toList K) (Ns (Kw (H_ (Lr l.length)) (q_ 96 [] [c_ 1 0,c_ 2 0])) (LA l.length) (w_ (Kx 0))) (K_ (K8 o.length m) (f_ l) (Q_ (f_ o) [Vi a] 3) 6)):=by kernel_rfl
theorem jId_nf:type_of%(by have h:=@MO;revert h;delta b_ c_ d_ f_ g_ m_ q_ w_ F_ H_ I_ K_ Q_ Kw Kx KJ K8 Lr LA;exact id):=@MO
theorem MP(K:KV)(b:KF)(l:Le)(o:Le)(a:Int)(m i:Nat):jIdL K b l o a m i=(Sp (decide ((i:Int)<I_ l.length)) (Oa i l/\nth (inV l) i=some (Vi (P_ l i))/\Of l i o/\nth (inV o) (G_ (s_ (inV l) i))=some (Kv o (inV l) i)/\Sp (decide (aa (inV o) (s_ (inV l) i)=a)) (K (Vi i) (K_ (K8 o.length m) (f_ l) (Q_ (f_ o) [Vi a] 3) 16)) (F_ l/\F_ o/\b (Ns (Kw (H_ (Lr l.length)) (q_ 96 [] [c_ 1 0,c_ 2 0])) (LA l.length) (w_ (x_ ((i:Int)+1)))) (K_ (K8 o.length m) (f_ l) (Q_ (f_ o) [Vi a] 3) 6))) (K (Vi (-1:Int)) (K_ (K8 o.length m) (f_ l) (Q_ (f_ o) [Vi a] 3) 6))):=by kernel_rfl
theorem Ek:type_of%(by have h:=@MP;revert h;delta Of Oa b_ c_ d_ f_ g_ m_ q_ s_ w_ x_ F_ G_ H_ I_ K_ P_ Q_ Kv Kw KJ K8 Lr LA;exact id):=@MP
abbrev Oi(a:Le)(b:Le):Prop:=((([]:Lh)=[]/\([]:Lh)=[])/\(inV a=inV (Ku a)/\List.length a=List.length (inV a))/\(inV b=inV (Ku b)/\List.length b=List.length (inV b))/\(∀(x:Int),x∈List.map deI (inV a)->0<=x/\x<(↑(List.length (inV b)):Int))/\List.length (inV a)<4611686018427387904)
theorem MR(K:KV)(l:Le)(o:Le)(a:Int)(m:Nat):jDl K l o a m=(HFs [Lw l,Lw o,Lw l,Lw o] (Oi l o)/\Sp (decide (ixD (Ku o) a (Ku l) (0:Nat)=(-1:Int))) (K (LA l.length) (K_ (K8 o.length m) (f_ l) (Q_ (f_ o) [Vi a] 3) 6)) (F_ l/\F_ o/\LAtZ XDl 2 f95.ntmps (hDl l o a m) (ay f95) [1,1,1,0,1,0] (finK (SX.E XDl) f95.results.toList K) (Ns (Ns Lf (q_ 96 [] [c_ 1 0,c_ 2 0]) (Kx (ixD (Ku o) a (Ku l) 0))) (LA l.length) (No Lf (x_ (ixD (Ku o) a (Ku l) 0+1)))) (K_ (K8 o.length m) (f_ l) (Q_ (f_ o) [Vi a] 3) 6))):=by kernel_rfl
theorem jDl_nf:type_of%(by have h:=@MR;revert h;delta Oi b_ c_ d_ f_ g_ m_ q_ x_ F_ K_ Q_ Ku Kx KJ K8 Lw LA;exact id):=@MR
theorem MS(K:KV)(b:KF)(c:Le)(l:Le)(o:Le)(a:Int)(m i j:Nat):jDlL K b c l o a m i j=(Sp (decide ((j:Int)<I_ l.length)) (Oa j l/\nth (inV l) j=some (Vi (P_ l j))/\Of l j o/\nth (inV o) (G_ (s_ (inV l) j))=some (Kv o (inV l) j)/\Sp (! decide (aa (inV o) (s_ (inV l) j)=a)) (Oa i l/\i<List.length (inV l)/\Kt (List.set (inV l) i (Vi (P_ l j)))/\F_ o/\b (Ns (Ns Lf (q_ 96 [] [c_ 1 0,c_ 2 0]) (x_ ((i:Int)+1))) (LA l.length) (No Lf (x_ ((j:Int)+1)))) (K_ (K8 o.length m) (l_ (List.set (inV l) i (Vi (P_ l j))) 3) (Q_ (f_ o) [Vi a] 3) 6)) (F_ l/\F_ o/\b (Ns (Ns Lf (q_ 96 [] [c_ 1 0,c_ 2 0]) (Kx i)) (LA l.length) (No Lf (x_ ((j:Int)+1)))) (K_ (K8 o.length m) (f_ l) (Q_ (f_ o) [Vi a] 3) 6))) ((0<=(i:Int)/\(i:Int)<=I_ l.length)/\Int.toNat (i:Int)+0+(List.length l-Int.toNat i)<=List.length (inV l)/\(0<=(i:Int)/\(i:Int)<=I_ l.length)/\K (LA (G_ i)) (K_ (K8 o.length m) (l_ (List.take (Int.toNat (i:Int)+0) (inV l)++(List.replicate (List.length l-Int.toNat i) (Vi 0)++List.drop (Int.toNat (i:Int)+0+List.length (List.replicate (List.length l-Int.toNat i) (Vi 0))) (inV l))) 3) (Q_ (f_ o) [Vi a] 3) 6))):=by kernel_rfl
theorem Ev:type_of%(by have h:=@MS;revert h;delta Of Oa b_ c_ d_ f_ g_ l_ m_ q_ s_ x_ F_ G_ I_ K_ P_ Q_ Kt Kv Kx KJ K8 LA;exact id):=@MS
theorem BD(Q:Value->AH->Prop)(l o:Le)(a x:Int)(m n:Nat):endF env (hDl l o a m) [] [] [] Q (.int .i64 x) ⟨(hDl l o a m).t,n⟩=(HF (.agg ⟨inV l⟩)/\HF (.agg ⟨inV o⟩)/\Q (.int .i64 x) (hDl l o a m)):=by kernel_rfl
def hDv(b:Lh)(o:Le)(a:Int)(m:Nat):AH:=⟨(Nd (Nd (Nd Lf (some (.cells [groS 4 o.length,groS 5 m] 85)) Lf) (some (.cells [.pointer (some ⟨3,0,none⟩)] 82)) (Nd Lf (some (.dead)) Lf)) (some (.gro b [] 3)) (Nd (Nd Lf (some (groI o)) Lf) (some (.cells [.int .i64 a] 3)) Lf)),6⟩
theorem BF(Q:Value->AH->Prop)(c:Le)(b:Lh)(o:Le)(a:Int)(m n:Nat):endF env (hDl c o a m) [] [] [] Q (groS 0 n) (hDv b o a m)=(HF (.agg ⟨b⟩)/\HF (.agg ⟨inV o⟩)/\Q (groS 0 n) (hDv b o a m)):=by kernel_rfl
theorem pR{x:Int}(h:x.toNat<o.length):hitD o fr x=decide (o[x.toNat]=fr):=by unfold hitD;rw[gD h]
theorem Fe{m:Nat}(f:∀ x∈l,0<=x/\x<o.length)(n:l.length<4611686018427387904):WalkF env f75 [groS 0 l.length,cDel 1 2] (hDl l o fr m) (.int .i64 (ixD o fr l 0)) (hDl l o fr m):=by
 refine aC BY (d:=2) (ns:=[]) (zs:=[]) (ws:=[]) ((jId_nf _ l o fr m).mpr ⟨ab _,ab _,?_⟩);refine LAtZ.stepF BY [] [] [] [0,1,7,8] (by kernel_rfl) (λk F A=>∃ i:Nat,F=frId l.length i/\A=hDl l o fr m/\i+k=l.length/\ixD o fr l 0=ixD o fr (l.drop i) i) ?_ (k:=l.length) ⟨0,rfl,rfl,by omega,by simp⟩;rintro k F A ⟨i,rfl,rfl,g,a⟩;refine(Ek _ _ l o fr m i).mpr (Sp.intro (λc=>?_) (λc=>?_));have c:=odt c;have b:i<l.length:=by omega
 have h:=f _ (Hq b);rw[aA b];have e:l[i].toNat<o.length:=by omega
 rw[H7 b]at a;have a:ixD o fr l 0=bif hitD o fr l[i]then(i:Int)else ixD o fr (l.drop (i+1)) (i+1):=a;rw[pR e]at a;rw[HN,D',aA e];refine⟨⟨by omega,by omega⟩,aL b,⟨by omega,by omega⟩,aL e,Sp.intro (λd=>?_) (λd=>?_)⟩;rw[d]at a;exact(BD _ l o fr i m 16).mpr ⟨ab _,ab _,by rw[a];rfl,rfl⟩;rw[d]at a;refine⟨ab _,ab _,k-1,by omega,i+1,?_,rfl,by omega,a⟩;rw[aF (x:=(i:Int)+1) (by omega) (by omega)];rfl;have c:=odf c;rw[Is (by omega)]at a;exact(BD _ l o fr (-1) m 6).mpr ⟨ab _,ab _,by rw[a];rfl,rfl⟩
theorem pS(l o:Le)(a:Int)(m:Nat):aQ [groI l,.cells [.pointer (some ⟨3,0,none⟩)] 82,.cells [.int .i64 a] 3,.cells [groS 4 o.length,groS 5 m] 85,groI o,.dead]=hDl l o a m:=by kernel_rfl
theorem id_tab:∀ args A p v A',frmQ noAr [5] spId args A=some (p,v,A')->PH p->CallAt env 75 args A v A':=wV ai (fn:=f75) rfl λargs d p v c h y=>by unfold spId at h;split at h;rename_i B b n k g R M Q b2 l t e P L I fr H O K w E N J u D G o a F;obtain⟨f,h⟩:=bl h;simp only[Hs]at h;obtain⟨rfl,rfl,rfl⟩:=h;simp only[f',Hy]at f;obtain⟨⟨⟨⟨rfl,rfl⟩,rfl,rfl⟩,⟨rfl,rfl⟩,rfl,rfl⟩,⟨⟨⟨rfl,rfl⟩,rfl,rfl⟩,⟨rfl,rfl⟩,rfl,rfl⟩,⟨rfl,rfl⟩,rfl,rfl,rfl⟩:=f;obtain⟨⟨rfl,rfl⟩,⟨C,rfl⟩,⟨z,rfl⟩,s,r⟩:(t=[]/\a=[])/\(l=inV (l.map deI)/\n=l.length)/\(o=inV (o.map deI)/\w=o.length)/\(∀x∈l.map deI,0<=x/\x<o.length)/\l.length<4611686018427387904:=y;generalize l.map deI=lI at*;generalize o.map deI=oI at*;subst C;subst z;rw[af]at s r ⊢;rw[af];have:=Fe (fr:=fr) (m:=u) s r;rw[<-pS]at this;exact this;cases h
structure DI (q:Int->Bool) (l cur:Le) (i j:Nat):Prop where
 len:cur.length=l.length
 ij:i<j
 jl:j<=l.length
 tk:cur.take i=(l.take j).filter λx=> !q x
 dr:cur.drop j=l.drop j
theorem DI.hit(h:DI q l cur i j)(b:j<l.length)(a:q l[j]=true):DI q l cur i (j+1):=by refine⟨h.len,by have:=h.ij;omega,by omega,?_,?_⟩;rw[h.tk,HC b,I'];simp[a];rw[<-Ji,<-Ji,h.dr]
theorem DI.keep(h:DI q l cur i j)(b:j<l.length)(a:q l[j]=false):DI q l (cur.set i l[j]) (i+1) (j+1):=by
 have e:=h.len;have c:=h.ij;refine⟨by grind,by omega,by omega,?_,?_⟩;have d:i<(cur.set i l[j]).length:=by rw[Hz];omega
 rw[HC d,Jy,List.take_set_of_le (Hw _),h.tk,HC b,I'];simp[a];rw[List.drop_set_of_lt (by omega),<-Ji,<-Ji,h.dr]
theorem DI.at'(h:DI q l cur i j)(a:j<l.length)(b:j<cur.length):cur[j]=l[j]:=by have:=Il (λx=>x[0]?) h.dr;grind
theorem rK{o:Le}{fr:Int}:∀ (l:Le) (i:Nat),ixD o fr l i≠ -1->∃ k,ixD o fr l i=((i+k:Nat):Int)/\∃ h:k<l.length,hitD o fr l[k]=true/\(l.take k).filter (λx=> !hitD o fr x)=l.take k
 | [],i,h=>absurd rfl h
 | x::l,i,h=>by
  have e:ixD o fr (x::l) i=bif hitD o fr x then(i:Int)else ixD o fr l (i+1):=rfl;cases a:hitD o fr x with
  |true=>grind
  |false=>rw[e,a]at h ⊢;obtain⟨k,f,c,b,d⟩:=rK l (i+1) h;refine⟨k+1,by grind,by simpa using c,by simpa using b,?_⟩;grind
theorem rM{o:Le}{fr:Int}:∀ (l:Le) (i:Nat),ixD o fr l i= -1->bx o fr l=l
 | [],i,h=>rfl
 | x::l,i,h=>by
  have e:ixD o fr (x::l) i=bif hitD o fr x then(i:Int)else ixD o fr l (i+1):=rfl;cases a:hitD o fr x with
  |true=>grind
  |false=>rw[e,a]at h;unfold bx;rw[J8,Ht (by rw[a];rfl)];have:=rM l (i+1) h;grind [bx]
theorem B6:XDl.Ok:=⟨ai,aD,am,.cons id_tab .nil⟩
def zerI(n:Nat):Le:=List.replicate n 0
theorem Gs{m:Nat}(t:∀ x∈l,0<=x/\x<o.length)(w:l.length<4611686018427387904):
 WalkF env f95 [groS 0 l.length,cDel 1 2] (hDl l o fr m) (groS 0 (bx o fr l).length) (hDl (bx o fr l++zerI (l.length-(bx o fr l).length)) o fr m):=by
 have r:∀ (Q:Value->AH->Prop) {cur:Le}{i j:Nat},DI (hitD o fr) l cur i j->l.length<=j->Q (groS 0 (bx o fr l).length) (hDl (bx o fr l++zerI (l.length-(bx o fr l).length)) o fr m)->Q (groS 0 i) (hDv (List.take (i+0) (inV cur)++(List.replicate (l.length-i) (Vi 0)++List.drop (i+0+(List.replicate (l.length-i) (Vi 0)).length) (inV cur))) o fr m):=λQ {cur i j} b g u=>by
  have a:=b.len;have n:=b.ij;have y:=b.jl;have K:bx o fr l=cur.take i:=by rw[b.tk,Jo (by omega)];rfl
  have p:(bx o fr l).length=i:=by grind
  rw[p]at u;rw[HZ,Is (by rw[af];omega),Hu,HN];have e:List.take i (inV cur)++List.replicate (l.length-i) (Vi 0)=inV (bx o fr l++zerI (l.length-i)):=by grind [inV,zerI,HD,Kl,Js]
  rw[e];exact u
 refine aC B6 (d:=2) (ns:=[]) (zs:=[]) (ws:=[]) ((jDl_nf _ l o fr m).mpr ?_);rw[cX,cX];refine⟨⟨ab _,ab _,ab _,ab _,⟨rfl,rfl⟩,⟨rfl,(af l).symm⟩,⟨rfl,(af o).symm⟩,by rw[af];exact t,by rw[af];exact w⟩,Sp.intro (λc=>?_) (λc=>?_)⟩;have c:=odt c;have e:=rM l 0 c;rw[e,IX];have H:l++zerI 0=l:=by unfold zerI;simp
 rw[H];exact(BF _ l (inV l) o fr m l.length).mpr ⟨ab _,ab _,rfl,rfl⟩
 · have c:=odf c;obtain⟨h,E,D,C,B⟩:=rK l 0 c;rw[E,IW,aF (x:=(h:Int)+1) (by omega) (by omega)];refine⟨ab _,ab _,?_⟩;refine LAtZ.stepF B6 [] [] [] [0,1,5,6] (by kernel_rfl) (λk F A=>∃ (cur:Le) (i j:Nat),F=frDl l.length i j/\A=hDl cur o fr m/\j+k=l.length/\DI (hitD o fr) l cur i j) ?_ (k:=l.length-(h+1)) ⟨l,h,h+1,rfl,rfl,by omega,rfl,by omega,by omega,?_,rfl⟩;rotate_left;rw[HC D,I',B];simp[C];rintro k F A ⟨cur,i,j,rfl,rfl,z,b⟩;have a:=b.len;have n:=b.ij;rw[<-a];refine(Ev _ _ l cur o fr m i j).mpr (Sp.intro (λc=>?_) (λc=>?_));have c:=odt c;have g:j<cur.length:=by omega
   have f:j<l.length:=by omega
   have J:=t _ (Hq f);have s:l[j].toNat<o.length:=by omega
   have p:i<cur.length:=by omega
   have G:(inV cur).set i (Vi l[j])=inV (cur.set i l[j]):=by unfold inV;rw[IQ]
   rw[aA g,b.at' f g,HN,D',aA s,G];refine⟨⟨by omega,by omega⟩,by rw[aL g,b.at' f g],⟨by omega,by omega⟩,aL s,Sp.intro (λd=>?_) (λd=>?_)⟩;refine⟨⟨by omega,by omega⟩,by rw[af];exact p,ab _,ab _,k-1,by omega,cur.set i l[j],i+1,j+1,?_,rfl,by omega,b.keep f (by grind [pR])⟩;rw[aF (x:=(i:Int)+1) (by omega) (by omega),aF (x:=(j:Int)+1) (by omega) (by omega),a];rfl;refine⟨ab _,ab _,k-1,by omega,cur,i,j+1,?_,rfl,by omega,b.hit f (by grind [pR])⟩;rw[aF (x:=(j:Int)+1) (by omega) (by omega),a];rfl;have c:=odf c;rw[D',af,a];refine⟨⟨by omega,by omega⟩,by omega,⟨by omega,by omega⟩,?_⟩;exact r (λv A=>endF env (hDl l o fr m) [] [] [] (λv1 I=>v1=groS 0 (bx o fr l).length/\I=hDl (bx o fr l++zerI (l.length-(bx o fr l).length)) o fr m) v A) b (by omega) ((BF _ l (inV (bx o fr l++zerI (l.length-(bx o fr l).length))) o fr m _).mpr ⟨ab _,ab _,rfl,rfl⟩)
def spDl:Lh->List AObj->Option (Ll×Value×List AObj)
 | [.slice (some ⟨B,b,none⟩) n k,.func (.func g) ⟨[]⟩ ⟨[.pointer (some ⟨B1,b1,none⟩),.pointer (some ⟨B2,b2,none⟩)]⟩],[.gro l tl e,.cells [.pointer (some ⟨B3,b3,none⟩)] e1,.cells [.int .i64 fr] e2,.cells [.slice (some ⟨B4,b4,none⟩) n4 k4,.slice (some ⟨B5,b5,none⟩) n5 k5] e3,.gro o tl4 e4,.dead]=>
  bif (((Nat.beq B 0&&Nat.beq b 0)&&(Nat.beq k (unk+3+1)&&Nat.beq g 96))&&((Nat.beq B1 1&&Nat.beq b1 0)&&(Nat.beq B2 2&&Nat.beq b2 0)))&&((((Nat.beq B3 3&&Nat.beq b3 0)&&(Nat.beq B4 4&&Nat.beq b4 0))&&((Nat.beq B5 5&&Nat.beq b5 0)&&(Nat.beq k4 (unk+3+1)&&Nat.beq k5 (unk+3+1))))&&((Nat.beq e 3&&Nat.beq e1 82)&&(Nat.beq e2 3&&(Nat.beq e3 85&&Nat.beq e4 3))))then
   some (some ((tl=[]/\tl4=[])/\(l=inV (l.map deI)/\n=l.length)/\(o=inV (o.map deI)/\n4=o.length)/\(∀x∈l.map deI,0<=x/\x<o.length)/\l.length<4611686018427387904),
    .slice (some ⟨B,b,none⟩) (bx (o.map deI) fr (l.map deI)).length k,[.gro (inV (bx (o.map deI) fr (l.map deI)++zerI (l.length-(bx (o.map deI) fr (l.map deI)).length))) [] e,.cells [.pointer (some ⟨B3,b3,none⟩)] e1,.cells [.int .i64 fr] e2,.cells [.slice (some ⟨B4,b4,none⟩) n4 k4,.slice (some ⟨B5,b5,none⟩) n5 k5] e3,.gro o [] e4,.dead])else none
 |_,_=>none
theorem dl_tab:∀ args A p v A',frmQ noAr [5] spDl args A=some (p,v,A')->PH p->CallAt env 95 args A v A':=wV ai (fn:=f95) rfl λargs d p v c h y=>by unfold spDl at h;split at h;rename_i B b n k g R M Q b2 l t e P L I fr H O K w E N J u D G o a F;obtain⟨f,h⟩:=bl h;simp only[Hs]at h;obtain⟨rfl,rfl,rfl⟩:=h;simp only[f',Hy]at f;obtain⟨⟨⟨⟨rfl,rfl⟩,rfl,rfl⟩,⟨rfl,rfl⟩,rfl,rfl⟩,⟨⟨⟨rfl,rfl⟩,rfl,rfl⟩,⟨rfl,rfl⟩,rfl,rfl⟩,⟨rfl,rfl⟩,rfl,rfl,rfl⟩:=f;obtain⟨⟨rfl,rfl⟩,⟨C,rfl⟩,⟨z,rfl⟩,s,r⟩:(t=[]/\a=[])/\(l=inV (l.map deI)/\n=l.length)/\(o=inV (o.map deI)/\w=o.length)/\(∀x∈l.map deI,0<=x/\x<o.length)/\l.length<4611686018427387904:=y;generalize l.map deI=lI at*;generalize o.map deI=oI at*;subst C;subst z;rw[af]at s r ⊢;rw[af];have:=Gs (fr:=fr) (m:=u) s r;rw[<-pS,<-pS]at this;exact this;cases h
def pM:Li:=[true,true,true,true,true,true]
def pH:Li:=[false,false,false,false,false,false]
def hQ(lits:List (Nat×AObj))(gM gH:Nat->Option AObj)(nx:Nat):AH:=match ofL lits Lf with
 | some t=>(match iO [(pM,gM),(pH,gH)] t with
   |some t1=>⟨t1,nx⟩
   |none=>⟨.leaf,nx⟩)
 |none=>⟨.leaf,nx⟩
def cCut(a b c:Nat):Value:=.func (.func 76) ⟨[]⟩ ⟨[.pointer (some ⟨a,0,none⟩),.pointer (some ⟨b,0,none⟩),.pointer (some ⟨c,0,none⟩)]⟩
def groE(els:Lh):AObj:=.gro els [] 49
def liQ(o:Le)(els:Lh)(st:Le)(wes:Ents)(wc:Nat)(wk:Le):List (Nat×AObj):=
 [(0,.cells [groS 1 o.length,groS 2 els.length] 85),(1,groI o),(2,groE els),(3,groI st),(4,.cells [.map (some 5)] 127),(5,.map wes wc),(6,.cells [.pointer (some ⟨0,0,none⟩)] 82),(7,.cells [groS 8 wk.length] 49),(8,groI wk)]
def liQ1(o:Le)(els:Lh)(st:Le)(wes:Ents)(wc:Nat)(wk:Le)(es:Ents)(ck:Nat)(mt:Le):List (Nat×AObj):=
 liQ o els st wes wc wk++[(9,.cells [.pointer (some ⟨0,0,none⟩)] 82),(10,.map es ck),(11,groI mt)]
def liQ2(o:Le)(els:Lh)(st:Le)(wes:Ents)(wc:Nat)(wk:Le)(es:Ents)(ck:Nat)(mt:Le):List (Nat×AObj):=
 [(0,.cells [groS 1 o.length,groS 12 els.length] 85),(1,groI o),(3,groI st),(4,.cells [.map (some 5)] 127),(5,.map wes wc),(6,.cells [.pointer (some ⟨0,0,none⟩)] 82),(7,.cells [groS 13 wk.length] 49),(9,.cells [.pointer (some ⟨0,0,none⟩)] 82),(10,.map es ck),(11,groI mt),(12,groE els),(13,groI wk)]
def frQ1(n m i:Nat):T Value:=(Nd (Nd (Nd (Nd Lf (some (groS 11 m)) (Nd Lf (some (.int .i64 i)) Lf)) (some (.pointer (some ⟨9,0,none⟩))) Lf) none (Nd Lf none (Nd (Nd Lf (some (groS 3 n)) Lf) none Lf))) none (Nd Lf (some (cCut 4 6 7)) (Nd Lf (some (.map (some 10))) (Nd (Nd Lf (some (.int .i64 n)) Lf) none Lf))))
def frQ2(m i:Nat):T Value:=(Nd (Nd (Nd Lf (some (.pointer (some ⟨9,0,none⟩))) Lf) none (Nd Lf none (Nd (Nd Lf none (Nd Lf (some (.int .i64 m)) Lf)) none Lf))) none (Nd (Nd Lf none (Nd (Nd Lf none (Nd Lf (some (groS 11 m)) Lf)) none Lf)) (some (cCut 4 6 7)) (Nd Lf (some (.map (some 10))) (Nd (Nd Lf none (Nd Lf (some (.int .i64 i)) Lf)) none Lf))))
def frQ4(m i b r a c:Nat):T Value:=(Nd (Nd (Nd (Nd (Nd Lf none (Nd (Nd Lf (some (.int .i64 c)) Lf) none Lf)) none Lf) (some (.pointer (some ⟨9,0,none⟩))) Lf) none (Nd Lf none (Nd (Nd Lf none (Nd Lf (some (.int .i64 m)) Lf)) (some (groS 8388544 r)) (Nd (Nd (Nd Lf (some (groS 8388544 r)) Lf) none Lf) none Lf)))) none (Nd (Nd Lf none (Nd (Nd Lf none (Nd Lf (some (groS 11 m)) Lf)) (some (.int .i64 b)) Lf)) (some (cCut 4 6 7)) (Nd Lf (some (.map (some 10))) (Nd (Nd Lf none (Nd Lf (some (.int .i64 i)) Lf)) (some (.pointer (some ⟨8388546,0,none⟩))) (Nd (Nd (Nd Lf (some (.int .i64 r)) Lf) none Lf) none Lf)))))
def elQ:El:={El.of (λ_ _ els i=>some (.int .i64 (aa els i)))with app:=true,gm:=λ_=>true,hk:=λd=>match d with|some 7=>[(.slot 7,3,1)]|_=>[]}
def XQ:SX:=⟨env,[],elQ,λ_=>.raw⟩
def iA(K:KV):KX:=finK XQ.E (f77.results).toList K
noncomputable def nQ:Nat:=Func.ntmps f77
noncomputable def bQ:Code:=ay f77
def jQ0(K:KV)(b:T AObj)(o:Le)(c:Lh)(a:Le)(e:Ents)(d:Nat)(g:Le)(f:Nat->Option AObj):Prop:=Cz XQ 1 f77 ⟨b,9⟩ [.pointer (some ⟨0,0,none⟩),groS 3 a.length,cCut 4 6 7] (hQ (liQ o c a e d g) f (λ_=>none) 8388544) K
def elQ1(v:Value)(a:Bool)(c:Ents)(b:Nat)(hk:List (NPos×TypeId×Nat)):El:={El.of (λ_ _ els i=>some (.int .i64 (aa els i)))with app:=true,gm:=λ_=>true,ml:=λ_ _ _=>some (v,a),mu:=λ_ _ _ _ _=>some (c,b),hk:=λd=>match d with|some 47=>hk|_=>[]}
def XQ1(v:Value)(b:Bool)(d:Ents)(c:Nat)(a:List (NPos×TypeId×Nat)):SX:=⟨env,[],elQ1 v b d c a,λ_=>.raw⟩
def mQ(l:Ld):Ld:=[(0,0),(1,1),(2,2),(3,3),(4,4),(5,5),(6,6),(7,7),(8,8)]++l
def mQ2(l:Ld):Ld:=[(0,0),(1,1),(3,3),(4,4),(5,5),(6,6),(7,7),(9,9),(10,10),(11,11)]++l
def ovQ1(o:Le)(b:Lh)(f:Le)(g:Ents)(c:Nat)(h:Le)(a:Ents)(e:Nat)(d:Le):List (Nat×AObj):=[(1,groI o),(2,groE b),(3,groI f),(5,.map g c),(8,groI h),(10,.map a e),(11,groI d)]
def ovQ2(o:Le)(b:Lh)(f:Le)(g:Ents)(c:Nat)(h:Le)(a:Ents)(e:Nat)(d:Le):List (Nat×AObj):=[(1,groI o),(3,groI f),(5,.map g c),(10,.map a e),(11,groI d),(12,groE b),(13,groI h)]
def slQ1:Lg:=[2,3,6,7,21,22,23]
def slQ2:Lg:=[2,3,6,52,53,54]
def slQ4:Lg:=[2,3,6,12,13,14,52,53,54,77,78,79]
def pQ1:Lg:=[1,1,1,1,0,1,0]
def pQ2:Lg:=[1,1,1,1,1,1,0]
def jQ1a(K:KV)(K2:KF)(t0:T AObj)(o:Le)(els:Lh)(st:Le)(wes:Ents)(wc:Nat)(wk:Le)(es:Ents)(ck:Nat)(mt:Le)(gM gH gH':Nat->Option AObj)(i j:Nat)(r:Le)(es2 es3:Ents)(ρf:Nat->Lk):Prop:=
 bJ (XQ1 (groS 8388544 r.length) true es2 ck []) XQ 1 nQ ⟨t0,9⟩ bQ pQ1 (iA K) (cg 9 [] (ovQ1 o els st wes wc wk es3 ck mt) (mQ [(9,9),(10,10),(11,11)]) slQ1 8388544 [(pM,gM,[]),(pH,gH',[(j,8388546)])] ρf K2) (frQ1 st.length mt.length i) (hQ (liQ1 o els st wes wc wk es ck mt++[(8388544,groI r)]) gM gH 8388545)
def jQ1b(K:KV)(K2:KF)(t0:T AObj)(o:Le)(els:Lh)(st:Le)(wes:Ents)(wc:Nat)(wk:Le)(es:Ents)(ck:Nat)(mt mt2:Le)(gM gH gH':Nat->Option AObj)(i j:Nat)(es2 es3:Ents)(ρf:Nat->Lk):Prop:=
 bJ (XQ1 nilS false es2 (ck+1) [(.slot 47,3,1)]) XQ 1 nQ ⟨t0,9⟩ bQ pQ1 (iA K) (cg 9 [] (ovQ1 o els st wes wc wk es3 (ck+1) mt2) (mQ [(9,9),(10,10),(11,8388545)]) slQ1 8388544 [(pM,gM,[]),(pH,gH',[(j,8388548)])] ρf K2) (frQ1 st.length mt.length i) (hQ (liQ1 o els st wes wc wk es ck mt) gM gH 8388544)
def elQ2(a b g:Nat)(f c:Bool)(d:Value->Ents)(e:Value->Nat):El:={El.of (λ_ s els i=>bif Nat.beq s 68||Nat.beq s 111 then some (groS 8388545 b)else bif Nat.beq s 19 then some (groS 8388545 g)else bif Nat.beq s 27 then some (groS 8388544 a)else some (.int .i64 (aa els i)))with app:=true,gm:=λ_=>true,ml:=λt _ _=>bif Nat.beq t 146 then some (groS 8388544 a,true)else some (.bool f,c),mu:=λ_ _ _ k _=>some (d k,e k)}
def XQ2(g a f:Nat)(e b:Bool)(c:Value->Ents)(d:Value->Nat):SX:=⟨env,[(95,frmQ noAr [5] spDl)],elQ2 g a f e b c d,λ_=>.raw⟩
def kQ2(K:KV)(b:KF)(a:T AObj):KX:=stepR XQ 1 nQ ⟨a,9⟩ bQ pQ2 (iA K) b
def pQ4:Lg:=[1,1,0,0,1,1,1,1,0,1,0]
def tlQs(o:Le)(c:Lh)(g:Le)(k:Ents)(d:Nat)(l:Le)(i:Ents)(f:Nat)(e:Le)(m a:Nat->Option AObj)(b j:Nat)(h:Nat->Lk):KF->KF:=cg 9 [2,8] (ovQ2 o c g k d l i f e) (mQ2 [(12,12),(13,13)]) slQ2 8388544 [(pM,m,[(b,8388545)]),(pH,a,[(j,8388544)])] h
def tlQd(o:Le)(c:Lh)(g:Le)(k:Ents)(d:Nat)(l:Le)(i:Ents)(f:Nat)(e:Le)(m a:Nat->Option AObj)(b j:Nat)(h:Nat->Lk):KF->KF:=cg 9 [2,8] (ovQ2 o c g k d l i f e) (mQ2 [(12,8388558),(13,8388599)]) slQ2 8388544 [(pM,m,[(b,8388545)]),(pH,a,[(j,8388544)])] h
def jQ2s(K:KV)(K3:KF)(t0:T AObj)(o:Le)(els els3:Lh)(st:Le)(wes:Ents)(wc:Nat)(wk:Le)(es es3:Ents)(ck:Nat)(mt:Le)(gM gH gM' gH':Nat->Option AObj)(i b j:Nat)(r q:Le)(ρf:Nat->Lk):Prop:=
 bJ (XQ2 r.length q.length 0 true true (λ_=>[]) (λ_=>0)) XQ 1 nQ ⟨t0,9⟩ bQ pQ2 (iA K) (tlQs o els3 st wes wc wk es3 ck mt gM' gH' b j ρf K3) (frQ2 mt.length i) (hQ (liQ2 o els st wes wc wk es ck mt++[(8388544,groI r),(8388545,groI q)]) gM gH 8388546)
def jQ2(K:KV)(again:KF)(t0:T AObj)(kd:Nat)(wv okw:Bool)(wE:Value->Ents)(wC:Value->Nat)(o:Le)(els:Lh)(st:Le)(wes:Ents)(wc:Nat)(wk:Le)(es:Ents)(ck:Nat)(mt:Le)(gM gH:Nat->Option AObj)(i:Nat)(r q:Le):Prop:=
 bJ (XQ2 r.length q.length kd wv okw wE wC) XQ 1 nQ ⟨t0,9⟩ bQ pQ2 (iA K) again (frQ2 mt.length i) (hQ (liQ2 o els st wes wc wk es ck mt++[(8388544,groI r),(8388545,groI q)]) gM gH 8388546)
def jQ2e(K:KV)(again:KF)(t0:T AObj)(o:Le)(els:Lh)(st:Le)(wes:Ents)(wc:Nat)(wk:Le)(es:Ents)(ck:Nat)(mt:Le)(gM gH:Nat->Option AObj):Prop:=
 bJ (XQ2 0 0 0 true true (λ_=>[]) (λ_=>0)) XQ 1 nQ ⟨t0,9⟩ bQ pQ2 (iA K) again (frQ2 mt.length mt.length) (hQ (liQ2 o els st wes wc wk es ck mt) gM gH 8388544)
def ovQ4(o:Le)(b:Lh)(f:Le)(g:Ents)(c:Nat)(h:Le)(a:Ents)(e:Nat)(d:Le)(r q:Le):List (Nat×AObj):=ovQ2 o b f g c h a e d++[(8388544,groI r),(8388545,groI q)]
def hQ4(o:Le)(a:Lh)(f:Le)(h:Ents)(c:Nat)(j:Le)(b:Ents)(e:Nat)(d:Le)(i g:Nat->Option AObj)(r q:Le):AH:=hQ (liQ2 o a f h c j b e d++[(8388544,groI r),(8388545,groI q),(8388546,.cells [.int .i64 a.length] 3)]) i g 8388547
def jQ4(K:KV)(K2 K3:KF)(t0:T AObj)(kd:Nat)(wv okw:Bool)(wE:Value->Ents)(wC:Value->Nat)(o o2 o3:Le)(els els3:Lh)(st:Le)(wes wes3:Ents)(wc wc3:Nat)(wk wk3:Le)(es es3:Ents)(ck:Nat)(mt:Le)(gM gH gM' gH':Nat->Option AObj)(i b c j:Nat)(r q:Le)(ρf ρ3:Nat->Lk):Prop:=
 bJ (XQ2 r.length q.length kd wv okw wE wC) (XQ2 r.length q.length kd wv okw wE wC) 1 nQ ⟨t0,9⟩ (an (subC pQ2 bQ)) pQ4 (kQ2 K (tlQd o3 els3 st wes3 wc3 wk3 es3 ck mt gM' gH' b j ρ3 K3) t0) (cg 9 [2,8] (ovQ4 o2 els st wes wc wk es ck mt r q) (mQ2 [(12,12),(13,13),(8388544,8388544),(8388545,8388545),(8388546,8388546)]) slQ4 8388547 [(pM,gM,[]),(pH,gH,[])] ρf K2) (frQ4 mt.length i b r.length els.length c) (hQ4 o els st wes wc wk es ck mt gM gH r q)
def jQt1(K2:KF)(o:Le)(els:Lh)(st:Le)(wes:Ents)(wc:Nat)(wk:Le)(gM:Nat->Option AObj)(ρf:Nat->Lk):Prop:=
 cg 9 [] (ovQ1 o els st wes wc wk [] 0 []) (mQ [(9,8388544),(10,8388545),(11,8388546)]) slQ1 8388544 [(pM,gM,[]),(pH,λ_=>none,[])] ρf K2 ((.node (.node (.node (.node .leaf (some (groS 8388546 0)) (.node .leaf (some (.int .i64 0)) .leaf)) (some (.pointer (some ⟨8388544,0,none⟩))) .leaf) none (.node .leaf none (.node (.node .leaf (some (groS 3 st.length)) .leaf) none .leaf))) none (.node .leaf (some (cCut 4 6 7)) (.node .leaf (some (.map (some 8388545))) (.node (.node .leaf (some (.int .i64 st.length)) .leaf) none .leaf))))) (hQ (liQ o els st wes wc wk++[(8388544,.cells [.pointer (some ⟨0,0,none⟩)] 82),(8388545,.map [] 0),(8388546,.gro [] [] 3)]) gM (λ_=>none) 8388547)
def jQt2(K2:KF)(o:Le)(els:Lh)(st:Le)(wes:Ents)(wc:Nat)(wk:Le)(es:Ents)(ck:Nat)(mt:Le)(gM gH:Nat->Option AObj)(ρf:Nat->Lk):Prop:=
 cg 9 [2,8] (ovQ2 o els st wes wc wk es ck mt) (mQ2 [(12,2),(13,8)]) slQ2 8388544 [(pM,gM,[]),(pH,gH,[])] ρf K2 ((.node (.node (.node .leaf (some (.pointer (some ⟨9,0,none⟩))) .leaf) none (.node .leaf none (.node (.node .leaf none (.node .leaf (some (.int .i64 mt.length)) .leaf)) none .leaf))) none (.node (.node .leaf none (.node (.node .leaf none (.node .leaf (some (groS 11 mt.length)) .leaf)) none .leaf)) (some (cCut 4 6 7)) (.node .leaf (some (.map (some 10))) (.node (.node .leaf none (.node .leaf (some (.int .i64 0)) .leaf)) none .leaf))))) (hQ (liQ1 o els st wes wc wk es ck mt) gM gH 8388544)
end
end Go.T9
namespace Go.T9
open Go Go.AM Go.MK
noncomputable section
variable {l:La}{m:Ld}{p:Li}{B LH i jH jM nH nM:Nat}{ρ:Nat->Lk}
theorem numM(i:Nat):T.numF pM i=64*i+63:=by simp[pM,T.numF];omega
theorem numH(i:Nat):T.numF pH i=64*i+126:=by simp[pH,T.numF];omega
def fI(p:Li)(n j L i:Nat):Lk:=if i=j then some L else if i<n then some (T.numF p i)else none
def rQ(c d e b f a:Nat):Nat->Lk:=rho2 pM (fI pM c d e) pH (fI pH b f a)
def rD(ρ:Nat->Lk)(B:Nat):Lk:=if B=2 then some 2 else if B=8 then some 8 else ρ B
def okN(a b y:Nat):Bool:=decide (y≠a/\y≠b/\y%64≠63/\y%64≠62)
theorem xf{n j L x:Nat}(h:fI p n j L i=some x):(i=j/\x=L)∨(i≠j/\i<n/\x=T.numF p i):=by unfold fI at h;grind
theorem pr{f x:Nat}(h:rQ nM jM f nH jH LH B=some x):
 (B=64*jM+63/\x=f)∨(∃i,i≠jM/\i<nM/\B=64*i+63/\x=64*i+63)∨(B=64*jH+126/\x=LH)∨(∃i,i≠jH/\i<nH/\B=64*i+126/\x=64*i+126):=by rcases nR h with⟨i,a,e⟩|⟨i,a,e⟩;rw[numM]at a;rcases xf e with⟨rfl,rfl⟩|⟨d,c,b⟩;exact .inl ⟨a,rfl⟩;exact .inr (.inl ⟨i,d,c,a,by rw[b,numM]⟩);rw[numH]at a;rcases xf e with⟨rfl,rfl⟩|⟨d,c,b⟩;grind;exact .inr (.inr (.inr ⟨i,d,c,a,by rw[b,numH]⟩))
theorem rQ_H(nM jM a nH jH LH i:Nat):rQ nM jM a nH jH LH (T.numF pH i)=fI pH nH jH LH i:=rho2_q λi j h=>by rw[numM,numH]at h;omega
theorem i7{c:Nat}(b:i≠jM)(a:i<nM):rQ nM jM c nH jH LH (T.numF pM i)=some (T.numF pM i):=qT (by unfold fI;rw[Hm b,Ht a])
theorem yK(nM jM a nH jH LH:Nat):rQ nM jM a nH jH LH (T.numF pM jM)=some a:=qT (by unfold fI;rw[Ht rfl])
theorem nW{c:Nat}(b:i≠jH)(a:i<nH):rQ nM jM c nH jH LH (T.numF pH i)=some (T.numF pH i):=by rw[rQ_H];unfold fI;rw[Hm b,Ht a]
theorem tm(nM jM a nH jH LH:Nat):rQ nM jM a nH jH LH (T.numF pH jH)=some LH:=by rw[rQ_H];unfold fI;rw[Ht rfl]
theorem kR{b nx:Nat}(f:(m.all λx=>okN b LH x.2)=true)(c:okN LH 0 b=true)(a:okN b 0 LH=true)
 (s:nM<=100000) (r:jM<=100000) (q:nH<=100000) (o:jH<=100000) (n:0<=b) (k:0<=LH) (j:8388544<=nx):RQ m (rQ nM jM b nH jH LH) [] nx:=by have c:=odt c;have a:=odt a;refine⟨λg B h=>?_,λw v B _ _ u t=>?_,λx e g _ h=>?_⟩;grind [pr];grind [pr];have d:=HV.1 f x e;have d:=odt d;grind [pr]
theorem Fa(h:inLb B [2,8]=false):B≠2/\B≠8:=by constructor<;>(intro e;subst e;cases h)
theorem ur{nx:Nat}(b:8388544<=nx)(h:RQ m ρ [] nx):RQ m (rD ρ) [2,8] nx:=by
 have e:∀ B,inLb B [2,8]=false->rD ρ B=ρ B:=λB j=>by simp_all [Fa,rD,Hm]
 refine⟨λd B a=>?_,λn k B g f a c=>?_,λx b d l a=>?_⟩;unfold rD at a;split at a;cases a;omega;split at a;cases a;omega;exact h.lt _ _ a;rw[e _ g]at a;rw[e _ f]at c;exact h.inj _ _ _ rfl rfl a c;rw[e _ l]at a;exact h.sep x b d rfl a
theorem idQ(l:Ld)(ρ:Nat->Lk):IdTo 9 (rhoX (mQ l) ρ):=λB a=>by
 have:B=0∨B=1∨B=2∨B=3∨B=4∨B=5∨B=6∨B=7∨B=8:=by omega
 rcases this with rfl|rfl|rfl|rfl|rfl|rfl|rfl|rfl|rfl<;>rfl
theorem kJ(h:∀ x∈m,x.1≠B):back m B=none:=by
 cases e:back m B with
 |none=>rfl
 |some x=>exact absurd rfl (h _ (ba e))
def okB(m:Ld):Bool:=m.all λx=>decide (x.1%64≠63/\x.1%64≠62)
theorem ce(b:okB m=true)(ρ:Nat->Lk)(i:Nat):rhoX m ρ (T.numF pM i)=ρ (T.numF pM i):=by unfold rhoX;rw[kJ λx a e=>by have:=HV.1 b x a;simp_all [odt,numM]]
theorem iP(b:okB m=true)(ρ:Nat->Lk)(i:Nat):rhoX m ρ (T.numF pH i)=ρ (T.numF pH i):=by unfold rhoX;rw[kJ λx a e=>by have:=HV.1 b x a;simp_all [odt,numH]]
theorem rD_M(ρ:Nat->Lk)(i:Nat):rD ρ (T.numF pM i)=ρ (T.numF pM i):=by simp_all [rD,numM,Hm]
theorem rD_H(ρ:Nat->Lk)(i:Nat):rD ρ (T.numF pH i)=ρ (T.numF pH i):=by simp_all [rD,numH,Hm]
theorem zR(l:Lh):glue l []=l:=by unfold glue;simp
theorem zS(l t:Le):glue (inV l) (inV t)=inV (l++t):=by
 cases t with
 |nil=>rw[show inV ([]:Le)=[]from rfl,zR,Hu]
 |cons x t=>show inV l++inV (x::t)=_;unfold inV;rw[HD]
theorem Bu(l:Le):∀ x∈ap (inV l),HF x:=λx a=>by rw[fP (λy b=>by obtain⟨z,_,rfl⟩:=Hn.1 b;rfl)]at a;obtain⟨z,_,rfl⟩:=Hn.1 a;exact HFi _ _
theorem e8(ρ:Nat->Lk)(l t:Le):ROX ρ (.gro (inV l) (inV t) 3) (groI (l++t)):=by have h:=RO.gro (ρ:=ρ) (els:=inV l) (tl:=inV t) (e:=3) (by unfold inV;rw[<-HD];exact Bu _);rw[zS]at h;exact .of h
theorem ak(ρ:Nat->Lk)(l:Le):ROX ρ (.gro (inV l) [] 3) (.gro (inV l) [] 3):=by have:=e8 ρ l [];rw[Hu]at this;exact this
theorem rox_tk(ρ:Nat->Lk)(l t:Le):ROX ρ (.gro (inV (l++t)) [] 3) (groI l):=by have h:=ROX.shr (ρ:=ρ) (els:=inV (l++t)) (tl:=[]) (e:=3) l.length (by rw[Hu];exact Bu _);rw[Hu,show List.take l.length (inV (l++t))=inV l from by grind [inV,Kl,List.take_left']]at h;exact h
def sl(x:Nat×Nat):Value:=groS x.1 x.2
def sls(l:Ld):Lh:=l.map sl
theorem bj(l:Ld):(sls l).length=l.length:=Hp _
theorem AJ{ρ:Nat->Lk}:∀ {l l':Ld},l'.length=l.length->(∀i,∀h:i<l.length,∀c:i<l'.length,l'[i].2=l[i].2/\ρ l'[i].1=some l[i].1)->RVs ρ (sls l) (sls l')
 | [],[],_,_=>.nil
 | x::l,y::l',hl,h=>by
  have a:=h 0 (by simp) (by simp);refine .cons ?_ (AJ (by simpa using hl) λi g d=>by have:=h (i+1) (by simp;omega) (by simp;omega);simpa using this)
  have e:y.2=x.2:=a.1;have b:ρ y.1=some x.1:=a.2;unfold sl groS;rw[e];exact .slice b
 | [],y::l',hl,_=>by simp at hl
 |x::l,[],hl,_=>by simp at hl
theorem kY(l:Ld):∀ x∈sls l,fU x:=λx a=>by obtain⟨y,_,rfl⟩:=Hn.1 a;exact gb _ _ _
theorem AK{l l':Ld}(a:l'.length=l.length)(h:∀ i,∀h:i<l.length,∀b:i<l'.length,l'[i].2=l[i].2/\ρ l'[i].1=some l[i].1):ROX ρ (.gro (sls l) [] 49) (.gro (sls l') [] 49):=
 .row (by rw[Hu];exact kY l) (kY l') (by grind [Hu,AJ])
def esS(m:List (Int×(Nat×Nat)×Nat)):Ents:=eI Vi sl m
theorem AN{ρ:Nat->Lk}:∀ {m e:List (Int×(Nat×Nat)×Nat)},e.length=m.length->(∀i,∀h:i<m.length,∀o:i<e.length,e[i].1=m[i].1/\e[i].2.2=m[i].2.2/\e[i].2.1.2=m[i].2.1.2/\ρ e[i].2.1.1=some m[i].2.1.1)->REs ρ (esS m) (esS e)
 | [],[],_,_=>.nil
 |(a,(b,c),d)::m,(a',(b',c'),d')::e,hl,h=>by obtain⟨n,k,j,f⟩:=h 0 (by simp) (by simp);simp only[List.getElem_cons_zero]at n k j f;subst n k j;exact .cons (.slice f) (AN (by simpa using hl) λi g q=>by have:=h (i+1) (by simp;omega) (by simp;omega);simpa using this)
 | [],y::l',hl,_=>by simp at hl
 |x::l,[],hl,_=>by simp at hl
theorem rox_es{m a:List (Int×(Nat×Nat)×Nat)}{c:Nat}(b:a.length=m.length)(h:∀ i,∀h:i<m.length,∀d:i<a.length,a[i].1=m[i].1/\a[i].2.2=m[i].2.2/\a[i].2.1.2=m[i].2.1.2/\ρ a[i].2.1.1=some m[i].2.1.1):ROX ρ (.map (esS m) c) (.map (esS a) c):=.of (.map (AN b h))
def esW(m:List (Int×Bool×Nat)):Ents:=eI Vi Value.bool m
theorem res_w(ρ:Nat->Lk):∀ (m:List (Int×Bool×Nat)),REs ρ (esW m) (esW m)
 | []=>.nil
 |(a,b,c)::m=>.cons (.hf (HFb _)) (res_w ρ m)
theorem dy(ρ:Nat->Lk)(m:List (Int×Bool×Nat))(c:Nat):ROX ρ (.map (esW m) c) (.map (esW m) c):=.of (.map (res_w ρ m))
def ah(l:La)(i:Nat):Option AObj:=(l[i]?).map groI
theorem bu{o:AObj}(h:ah l i=some o):∃ a:i<l.length,o=groI l[i]:=by grind [ah,J6,Hx]
theorem bK(h:i<l.length):ah l i=some (groI l[i]):=by grind [ah,Hr]
theorem nz{b:FamL}(c:(p,ah l)∈b)(h:∀ i,i<l.length->ρ (T.numF p i)=some (T.numF p i)):FQ ρ b p (ah l) []:=λi e a=>by obtain⟨d,rfl⟩:=bu a;exact .inr ⟨_,i,_,c,h i d,a,ak _ _⟩
theorem i6{b:FamL}{g:Nat->Option AObj}{l':La}{j L:Nat}{o:AObj}(c:(p,g)∈b)(r:ρ (T.numF p j)=some L)(q:∀ h:j<l'.length,ROX ρ o (groI l'[j]))(h:∀ i,∀a:i<l'.length,i≠j->ρ (T.numF p i)=some (T.numF p i)/\g i=some (groI l'[i])):FQ ρ b p (ah l') [(j,L,o)]:=λi n a=>by obtain⟨k,rfl⟩:=bu a;by_cases e:i=j;simp_all;obtain⟨f,d⟩:=h i k e;exact .inr ⟨_,i,_,c,f,d,ak _ _⟩
end
end Go.T9
