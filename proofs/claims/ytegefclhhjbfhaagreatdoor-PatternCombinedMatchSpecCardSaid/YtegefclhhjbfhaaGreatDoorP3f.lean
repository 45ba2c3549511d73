/- A part of the proof. -/
import Derived.Test.YtegefclhhjbfhaaGreatDoorV7
import Derived.ChangeMaps5
import Derived.Test.YtegefclhhjbfhaaGreatDoorTie
import Derived.Test.YtegefclhhjbfhaaGreatDoorCards
import Derived.ProofKit
import Derived.LaidMore
import Derived.Lay
import Derived.SevenTiedAt
import Derived.Stop.Joined
import Derived.Lib.SmallJoins
set_option linter.unusedVariables false
set_option linter.unusedSimpArgs false
namespace Go.Proofs.YtegefclhhjbfhaaGreatDoor
open Go.ChangeShapes Go.WideShapes Go.ChangeAt Go.RowKit Go.Joins
theorem named3:Tryz.prog.funcNamed "dynamometer/dynamometerlaw3.PatternCombinedMatchSpec" =some 3:=by kernel_rfl
set_option maxRecDepth 100000 in
theorem lifted3(os:Os)(a:os.Started)(H:Type)(enc:TypeId×Value->H):
 ReturnsInHanded {} Tryz.checked os 3 .any (λw args=>(Rows.patternCombinedMatchSpecSpec.pre enc Tryz.prog Tryz.f3 Rows.patternCombinedMatchSpecRow.domain false w args/\laidMetH Tryz.prog Rows.patternCombinedMatchSpecRow.laid w)/\sizedMet enc Tryz.prog Tryz.f3 (OpenSpec.ofChange Rows.patternCombinedMatchSpecSpec) false w args)
  (Rows.patternCombinedMatchSpecSpec.post enc Tryz.prog Tryz.f3 false true false false):=by
 refine returnsInHanded_of_change_and (C:=Tryz.checked) (X:=λw _=>laidMetH Tryz.prog Rows.patternCombinedMatchSpecRow.laid w) (λ_ _ _ B h=>h.of_heap B) (by kernel_rfl) a (by kernel_rfl) Tryz.func3 (ChangeSpec.witness_shaped (enc:=enc) (C:=Tryz.checked) (os:=os) (X:=λw _=>laidMetH Tryz.prog Rows.patternCombinedMatchSpecRow.laid w) false (World.laidAll Tryz.prog os Rows.patternCombinedMatchSpecRow.laid) #[.agg #[.int .i64 0,.slice none 0 0,.slice none 0 0],.agg #[.int .i64 0,.slice none 0 0,.slice none 0 0]] 8 (World.laidAll_os _ _ _) (World.shaped_of_ZipB (by kernel_rfl) (by kernel_rfl)) (by kernel_rfl) (by kernel_rfl) (by kernel_rfl) (by rw[MakeChecks.laidMetH_plain _ _ _ (by kernel_rfl)];exact laidMet_laidAll _ (by kernel_rfl) (by kernel_rfl))) ?_;intro W d args M V f c s U _ G _;have b:∀ (j:Nat) t v,Tryz.f3.params[j]? =some t->args[j]? =some v->Value.okWide Tryz.prog W .any d t v:=c;have n:=s;obtain⟨p,q,o,F,rfl,_,_⟩:=s;have u:DataW.TrodAll enc Tryz.prog W 0 (λ_=>true) true Tryz.f3.params.toList args.toList M p:=o;rw[Tryz.params3]at u b;obtain⟨r,y,Z,L,S,Q,k,rfl,rfl,J,A⟩:=trodAll_cons u;obtain⟨v1,x,Y,K,R,P,rfl,rfl,rfl,I,z⟩:=trodAll_cons A;obtain⟨rfl,rfl,rfl⟩:=trodAll_nil z;obtain rfl:args= #[r,v1]:=by cases args;simp_all
 obtain⟨rfl,rfl⟩:=trodVars_none F;obtain⟨O,m,i⟩:=T9.arg_au (b 0 25 r rfl rfl) J;obtain⟨N,l,g⟩:=T9.arg_au (b 1 25 v1 rfl rfl) I;refine(T9.combined_law O N m l W (T9.glob_laid (laid:=Rows.patternCombinedMatchSpecRow.laid) (List.Mem.tail _ (List.Mem.tail _ (List.Mem.head _))) (List.Mem.head _) (by kernel_rfl) G) i g).mono λe W' ⟨D,E⟩=>?_;subst D;exact⟨_,rfl,AM.law_post (by kernel_rfl) (by kernel_rfl) rfl n rfl (λ_ _ _=>trodAll_mk1 (shut_bool Tryz.underlying4 _)) E⟩
theorem holds3:Rows.PatternCombinedMatchSpecSaid:=
 OpenClaim.holds_of_wide 3 Tryz.f3 rfl rfl rfl rfl rfl rfl rfl ⟨rfl,rfl,rfl,rfl,rfl⟩ rfl rfl rfl rfl rfl named3 Tryz.func3 (by kernel_rfl)
  (odt (by kernel_rfl)) (by unfold Func.isWrapper;first|(rw[Ht (by decide+kernel)];kernel_rfl)|(rw[Hm (by decide+kernel)];exact⟨rfl,rfl⟩))
  (λc a H b _=>lifted3 c a H b)
theorem card3_holds:Rows.PatternCombinedMatchSpecCardSaid:=
 Claim7.holds_tied_plain_at .later [] [.data,.data,.data] true (true, "df498e3dff332095e5a10a14f28d2ca29d66cbd94987921dfc8a3b6853cb20d0") false holds3 (λ_ h=>by cases h) (by kernel_rfl) (λ_ h=>by cases h) patternCombinedMatchSpec_row_tie rfl ⟨rfl,rfl⟩ (by kernel_rfl) rfl
  (fun f g e b=>by
   obtain rfl:f=3:=Iw (named3.symm.trans e) |>.symm;obtain rfl:g=Tryz.f3:=(Iw (Tryz.func3.symm.trans b)).symm;exact⟨by kernel_rfl,λj t c=>by
    rw[Tryz.params3]at c;have d:t∈[25,25]:=by simpa using Array.mem_of_getElem? c
    have a:([25,25].all λu=> !Tryz.prog.wantsStandIn u)=true:=by kernel_rfl
    exact(show Tryz.prog.wantsStandIn t=false by simpa using HV.1 a t d)⟩)
  (by kernel_rfl)
end Go.Proofs.YtegefclhhjbfhaaGreatDoor
