/- A part of the proof. -/
import Derived.Test.YthnclaleojkecaaGreatDoorV7
import Derived.ChangeMaps5
import Derived.Test.YthnclaleojkecaaGreatDoorP3b
import Derived.Test.YthnclaleojkecaaGreatDoorP3c
import Derived.Test.YthnclaleojkecaaGreatDoorP3d
import Derived.Test.YthnclaleojkecaaGreatDoorWa
import Derived.Test.YthnclaleojkecaaGreatDoorCards
import Derived.ProofKit
import Derived.OpenShut
import Derived.LaidMore
import Derived.Lay
import Derived.SevenTiedAt
import Derived.Stop.Joined
import Derived.Lib.SmallJoins
set_option linter.unusedVariables false
set_option linter.unusedSimpArgs false
namespace Go.Proofs.YthnclaleojkecaaGreatDoor
open Go.ChangeShapes Go.WideShapes Go.ChangeAt Go.RowKit Go.Joins
set_option maxRecDepth 100000 in
theorem lifted4(os:Os)(a:os.Started)(H:Type)(enc:TypeId×Value->H):
 ReturnsInHanded {} Tryz.checked os 4 .any (λw args=>(Rows.patternAfterMatchesSpecSpec.pre enc Tryz.prog Tryz.f4 Rows.patternAfterMatchesSpecRow.domain false w args/\laidMetH Tryz.prog Rows.patternAfterMatchesSpecRow.laid w)/\sizedMet enc Tryz.prog Tryz.f4 (OpenSpec.ofChange Rows.patternAfterMatchesSpecSpec) false w args)
  (Rows.patternAfterMatchesSpecSpec.post enc Tryz.prog Tryz.f4 false true false false):=by
 refine returnsInHanded_of_change_and (C:=Tryz.checked) (X:=λw _=>laidMetH Tryz.prog Rows.patternAfterMatchesSpecRow.laid w) (λ_ _ _ A h=>h.of_heap A) Go.T9.own1 a (by kernel_rfl) Tryz.func4 (ChangeSpec.witness_shaped (enc:=enc) (C:=Tryz.checked) (os:=os) (X:=λw _=>laidMetH Tryz.prog Rows.patternAfterMatchesSpecRow.laid w) false (World.laidAll Tryz.prog os Rows.patternAfterMatchesSpecRow.laid) #[.agg #[.int .i64 0,.slice none 0 0,.slice none 0 0],.string .empty] 8 (World.laidAll_os _ _ _) (World.shaped_of_ZipB (Go.T9.zipL4 os) (Go.T9.restL4 os)) (by kernel_rfl) (by kernel_rfl) (by kernel_rfl) (by rw[MakeChecks.laidMetH_plain _ _ _ (by kernel_rfl)];exact laidMet_laidAll _ (Go.T9.layFL3 os) (Go.T9.layIL3 os))) ?_;intro W d args L S f c r R _ F _;have b:∀ (j:Nat) t v,Tryz.f4.params[j]? =some t->args[j]? =some v->Value.okWide Tryz.prog W .any d t v:=c;have m:=r;obtain⟨p,q,n,E,rfl,_,_⟩:=r;have s:DataW.TrodAll enc Tryz.prog W 0 (λ_=>true) true Tryz.f4.params.toList args.toList L p:=n;rw[Tryz.params4]at s b;obtain⟨o,x,V,K,Q,O,k,rfl,rfl,I,z⟩:=trodAll_cons s;obtain⟨v1,u,U,J,P,N,rfl,rfl,rfl,G,y⟩:=trodAll_cons z;obtain⟨rfl,rfl,rfl⟩:=trodAll_nil y;obtain rfl:args= #[o,v1]:=by cases args;simp_all
 obtain⟨rfl,rfl⟩:=trodVars_none E;obtain⟨M,l,g⟩:=T9.arg_au (b 0 25 o rfl rfl) I;obtain⟨s1,rfl,rfl,rfl,i⟩:=Go.ChangeMaps.open_string Tryz.underlying9 (b 1 9 v1 rfl rfl) G;refine(T9.after_law M s1 l (T9.le_max i) W (T9.glob_laid (laid:=Rows.patternAfterMatchesSpecRow.laid) (List.Mem.tail _ (List.Mem.tail _ (List.Mem.head _))) (List.Mem.head _) (by kernel_rfl) F) g).mono λe Y ⟨B,D⟩=>?_;subst B;exact⟨_,rfl,AM.law_post Go.T9.laidOut Go.T9.readable4 rfl m rfl (λ_ _ _=>trodAll_mk1 (shut_bool Tryz.underlying4 _)) D⟩
theorem holds4:Rows.PatternAfterMatchesSpecSaid:=
 OpenClaim.holds_of_wide 4 Tryz.f4 rfl rfl rfl rfl rfl rfl rfl ⟨rfl,rfl,rfl,rfl,rfl⟩ rfl rfl rfl rfl rfl Go.T9.named4 Tryz.func4 Go.T9.joined4
  (odt (by kernel_rfl)) (by unfold Func.isWrapper;first|(rw[E' (by decide+kernel)];kernel_rfl)|(rw[C' (by decide+kernel)];exact⟨rfl,rfl⟩))
  (λc a H b _=>lifted4 c a H b)
theorem card4_holds:Rows.PatternAfterMatchesSpecCardSaid:=
 Claim7.holds_tied_plain_at .later [] [.data,.data,.data] true (true, "cb475698a4c70397d61531a565717bc5edcba765dac9e675b2be5869caeaadb2") false holds4 (λ_ h=>by cases h) Go.T9.wft4 (λ_ h=>by cases h) Go.T9.row_tie4 rfl ⟨rfl,rfl⟩ (by kernel_rfl) rfl
  (fun f g e b=>by
   obtain rfl:f=4:=Hf (Go.T9.named4.symm.trans e) |>.symm;obtain rfl:g=Tryz.f4:=(Hf (Tryz.func4.symm.trans b)).symm;exact⟨Go.T9.looks1.symm,λj t c=>by
    rw[Tryz.params4]at c;have d:t∈[25,9]:=by simpa using Array.mem_of_getElem? c
    have a:([25,9].all λu=> !Tryz.prog.wantsStandIn u)=true:=by unfold Program.wantsStandIn Program.underlying;rw[Go.T9.hT.2];kernel_rfl
    exact(show Tryz.prog.wantsStandIn t=false by simpa using G0.1 a t d)⟩)
  (by unfold OpenClaim.goesBy;exact Go.T9.goes4.symm)
end Go.Proofs.YthnclaleojkecaaGreatDoor
