/- A part of the proof. -/
import Derived.Test.YtegefclhhjbfhaaGreatDoorV7
import Derived.ChangeMaps5
import Derived.Test.YtegefclhhjbfhaaGreatDoorP3b
import Derived.Test.YtegefclhhjbfhaaGreatDoorP3c
import Derived.Test.YtegefclhhjbfhaaGreatDoorP3d
import Derived.Test.YtegefclhhjbfhaaGreatDoorWa
import Derived.Test.YtegefclhhjbfhaaGreatDoorCards
import Derived.ProofKit
import Derived.OpenShut
import Derived.LaidMore
import Derived.Lay
import Derived.SevenTiedAt
import Derived.Stop.Joined
import Derived.Lib.SmallJoins
set_option linter.unusedVariables false
set_option linter.unusedSimpArgs false
namespace Go.Proofs.YtegefclhhjbfhaaGreatDoor
open Go.ChangeShapes Go.WideShapes Go.ChangeAt Go.RowKit Go.Joins
set_option maxRecDepth 100000 in
theorem lifted4(os:Os)(a:os.Started)(H:Type)(enc:TypeId×Value->H):
 ReturnsInHanded {} Tryz.checked os 4 .any (λw args=>(Rows.patternAlgebraSpec.pre enc Tryz.prog Tryz.f4 Rows.patternAlgebraRow.domain false w args/\laidMetH Tryz.prog Rows.patternAlgebraRow.laid w)/\sizedMet enc Tryz.prog Tryz.f4 (OpenSpec.ofChange Rows.patternAlgebraSpec) false w args)
  (Rows.patternAlgebraSpec.post enc Tryz.prog Tryz.f4 false true false false):=by
 refine returnsInHanded_of_change_and (C:=Tryz.checked) (X:=λw _=>laidMetH Tryz.prog Rows.patternAlgebraRow.laid w) (λ_ _ _ B h=>h.of_heap B) Go.T9.own1 a (by kernel_rfl) Tryz.func4 (ChangeSpec.witness_shaped (enc:=enc) (C:=Tryz.checked) (os:=os) (X:=λw _=>laidMetH Tryz.prog Rows.patternAlgebraRow.laid w) false (World.laidAll Tryz.prog os Rows.patternAlgebraRow.laid) #[.agg #[.int .i64 0,.slice none 0 0,.slice none 0 0],.agg #[.int .i64 0,.slice none 0 0,.slice none 0 0]] 8 (World.laidAll_os _ _ _) (World.shaped_of_ZipB (Go.T9.zipL4 os) (Go.T9.restL4 os)) (by kernel_rfl) (by kernel_rfl) (by kernel_rfl) (by rw[MakeChecks.laidMetH_plain _ _ _ (by kernel_rfl)];exact laidMet_laidAll _ (Go.T9.layFL4 os) (Go.T9.layIL4 os))) ?_;intro W d args M V f c s U _ G _;have b:∀ (j:Nat) t v,Tryz.f4.params[j]? =some t->args[j]? =some v->Value.okWide Tryz.prog W .any d t v:=c;have n:=s;obtain⟨p,q,o,F,rfl,_,_⟩:=s;have u:DataW.TrodAll enc Tryz.prog W 0 (λ_=>true) true Tryz.f4.params.toList args.toList M p:=o;rw[Tryz.params4]at u b;obtain⟨r,y,Z,L,S,Q,k,rfl,rfl,J,A⟩:=trodAll_cons u;obtain⟨v1,x,Y,K,R,P,rfl,rfl,rfl,I,z⟩:=trodAll_cons A;obtain⟨rfl,rfl,rfl⟩:=trodAll_nil z;obtain rfl:args= #[r,v1]:=by cases args;simp_all
 obtain⟨rfl,rfl⟩:=trodVars_none F;obtain⟨O,m,i⟩:=T9.arg_au (b 0 25 r rfl rfl) J;obtain⟨N,l,g⟩:=T9.arg_au (b 1 25 v1 rfl rfl) I;refine(T9.algebra_law O N m l W (T9.glob_laid (laid:=Rows.patternAlgebraRow.laid) (List.Mem.head _) (List.Mem.tail _ (List.Mem.head _)) (by kernel_rfl) G) i g).mono λe W' ⟨D,E⟩=>?_;subst D;exact⟨_,rfl,AM.law_post Go.T9.laidOut Go.T9.readable4 rfl n rfl (λ_ _ _=>trodAll_mk1 (shut_bool Tryz.underlying4 _)) E⟩
theorem holds4:Rows.PatternAlgebraSaid:=
 OpenClaim.holds_of_wide 4 Tryz.f4 rfl rfl rfl rfl rfl rfl rfl ⟨rfl,rfl,rfl,rfl,rfl⟩ rfl rfl rfl rfl rfl Go.T9.named4 Tryz.func4 Go.T9.joined4
  (odt (by kernel_rfl)) (by unfold Func.isWrapper;first|(rw[Gw (by decide+kernel)];kernel_rfl)|(rw[D' (by decide+kernel)];exact⟨rfl,rfl⟩))
  (λc a H b _=>lifted4 c a H b)
theorem card4_holds:Rows.PatternAlgebraCardSaid:=
 Claim7.holds_tied_plain_at .later [] [.data,.data,.data] true (true, "df498e3dff332095e5a10a14f28d2ca29d66cbd94987921dfc8a3b6853cb20d0") false holds4 (λ_ h=>by cases h) Go.T9.wft4 (λ_ h=>by cases h) Go.T9.row_tie4 rfl ⟨rfl,rfl⟩ (by kernel_rfl) rfl
  (fun f g e b=>by
   obtain rfl:f=4:=Hk (Go.T9.named4.symm.trans e) |>.symm;obtain rfl:g=Tryz.f4:=(Hk (Tryz.func4.symm.trans b)).symm;exact⟨Go.T9.looks1.symm,λj t c=>by
    rw[Tryz.params4]at c;have d:t∈[25,25]:=by simpa using Array.mem_of_getElem? c
    have a:([25,25].all λu=> !Tryz.prog.wantsStandIn u)=true:=by unfold Program.wantsStandIn Program.underlying;rw[Go.T9.hT.2];kernel_rfl
    exact(show Tryz.prog.wantsStandIn t=false by simpa using Hc.1 a t d)⟩)
  (by unfold OpenClaim.goesBy;exact Go.T9.goes4.symm)
end Go.Proofs.YtegefclhhjbfhaaGreatDoor
