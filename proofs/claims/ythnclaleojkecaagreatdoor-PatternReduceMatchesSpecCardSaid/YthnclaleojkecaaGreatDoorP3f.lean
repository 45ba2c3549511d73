/- A part of the proof. -/
import Derived.Test.YthnclaleojkecaaGreatDoorV7
import Derived.ChangeMaps5
import Derived.Test.YthnclaleojkecaaGreatDoorP3b
import Derived.Test.YthnclaleojkecaaGreatDoorP3c
import Derived.Test.YthnclaleojkecaaGreatDoorP3d
import Derived.Test.YthnclaleojkecaaGreatDoorWa
import Derived.Test.YthnclaleojkecaaGreatDoorCards
import Derived.ProofKit
import Derived.OpenShut
import Derived.LaidMore
import Derived.Lay
import Derived.SevenTiedAt
import Derived.Stop.Joined
import Derived.Lib.SmallJoins
set_option linter.unusedVariables false
set_option linter.unusedSimpArgs false
namespace Go.Proofs.YthnclaleojkecaaGreatDoor
open Go.ChangeShapes Go.WideShapes Go.ChangeAt Go.RowKit Go.Joins
set_option maxRecDepth 100000 in
theorem lifted3(os:Os)(a:os.Started)(H:Type)(enc:TypeId×Value->H):
 ReturnsInHanded {} Tryz.checked os 3 .any (λw args=>(Rows.patternReduceMatchesSpecSpec.pre enc Tryz.prog Tryz.f3 Rows.patternReduceMatchesSpecRow.domain false w args/\laidMetH Tryz.prog Rows.patternReduceMatchesSpecRow.laid w)/\sizedMet enc Tryz.prog Tryz.f3 (OpenSpec.ofChange Rows.patternReduceMatchesSpecSpec) false w args)
  (Rows.patternReduceMatchesSpecSpec.post enc Tryz.prog Tryz.f3 false true false false):=by
 refine returnsInHanded_of_change_and (C:=Tryz.checked) (X:=λw _=>laidMetH Tryz.prog Rows.patternReduceMatchesSpecRow.laid w) (λ_ _ _ x h=>h.of_heap x) Go.T9.own1 a (by kernel_rfl) Tryz.func3 (ChangeSpec.witness_shaped (enc:=enc) (C:=Tryz.checked) (os:=os) (X:=λw _=>laidMetH Tryz.prog Rows.patternReduceMatchesSpecRow.laid w) false (World.laidAll Tryz.prog os Rows.patternReduceMatchesSpecRow.laid) #[.agg #[.int .i64 0,.slice none 0 0,.slice none 0 0]] 8 (World.laidAll_os _ _ _) (World.shaped_of_ZipB (Go.T9.zipL3 os) (Go.T9.restL3 os)) (by kernel_rfl) (by kernel_rfl) (by kernel_rfl) (by rw[MakeChecks.laidMetH_plain _ _ _ (by kernel_rfl)];exact laidMet_laidAll _ (Go.T9.layFL3 os) (Go.T9.layIL3 os))) ?_;intro W d args F L f c o K _ B _;have b:∀ (j:Nat) t v,Tryz.f3.params[j]? =some t->args[j]? =some v->Value.okWide Tryz.prog W .any d t v:=c;have l:=o;obtain⟨p,q,m,A,rfl,_,_⟩:=o;have r:DataW.TrodAll enc Tryz.prog W 0 (λ_=>true) true Tryz.f3.params.toList args.toList F p:=m;rw[Tryz.params3]at r b;obtain⟨n,s,M,E,J,I,i,rfl,rfl,D,u⟩:=trodAll_cons r;obtain⟨rfl,rfl,rfl⟩:=trodAll_nil u;obtain rfl:args= #[n]:=by cases args;simp_all
 obtain⟨rfl,rfl⟩:=trodVars_none A;obtain⟨G,k,g⟩:=T9.arg_au (b 0 25 n rfl rfl) D;refine(T9.reduce_law G k W (T9.glob_laid (laid:=Rows.patternReduceMatchesSpecRow.laid) (List.Mem.tail _ (List.Mem.tail _ (List.Mem.head _))) (List.Mem.head _) (by kernel_rfl) B) g).mono λe N ⟨y,z⟩=>?_;subst y;exact⟨_,rfl,AM.law_post Go.T9.laidOut Go.T9.readable3 rfl l rfl (λ_ _ _=>trodAll_mk1 (shut_bool Tryz.underlying4 _)) z⟩
theorem holds3:Rows.PatternReduceMatchesSpecSaid:=
 OpenClaim.holds_of_wide 3 Tryz.f3 rfl rfl rfl rfl rfl rfl rfl ⟨rfl,rfl,rfl,rfl,rfl⟩ rfl rfl rfl rfl rfl Go.T9.named3 Tryz.func3 Go.T9.joined3
  (odt (by kernel_rfl)) (by unfold Func.isWrapper;first|(rw[E' (by decide+kernel)];kernel_rfl)|(rw[C' (by decide+kernel)];exact⟨rfl,rfl⟩))
  (λc a H b _=>lifted3 c a H b)
theorem card3_holds:Rows.PatternReduceMatchesSpecCardSaid:=
 Claim7.holds_tied_plain_at .later [] [.data,.data,.data] true (true, "cb475698a4c70397d61531a565717bc5edcba765dac9e675b2be5869caeaadb2") false holds3 (λ_ h=>by cases h) Go.T9.wft3 (λ_ h=>by cases h) Go.T9.row_tie3 rfl ⟨rfl,rfl⟩ (by kernel_rfl) rfl
  (fun f g e b=>by
   obtain rfl:f=3:=GM (Go.T9.named3.symm.trans e) |>.symm;obtain rfl:g=Tryz.f3:=(GM (Tryz.func3.symm.trans b)).symm;exact⟨Go.T9.looks1.symm,λj t c=>by
    rw[Tryz.params3]at c;have d:t∈[25]:=by simpa using Array.mem_of_getElem? c
    have a:([25].all λu=> !Tryz.prog.wantsStandIn u)=true:=by unfold Program.wantsStandIn Program.underlying;rw[Go.T9.hT.2];kernel_rfl
    exact(show Tryz.prog.wantsStandIn t=false by simpa using GG.1 a t d)⟩)
  (by unfold OpenClaim.goesBy;exact Go.T9.goes3.symm)
end Go.Proofs.YthnclaleojkecaaGreatDoor
