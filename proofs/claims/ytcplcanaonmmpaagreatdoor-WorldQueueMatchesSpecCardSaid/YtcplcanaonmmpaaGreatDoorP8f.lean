/- A part of the proof. -/
import Derived.Test.YtcplcanaonmmpaaGreatDoorX6
import Derived.Test.YtcplcanaonmmpaaGreatDoorP8b
import Derived.Test.YtcplcanaonmmpaaGreatDoorP8c
import Derived.Test.YtcplcanaonmmpaaGreatDoorP8d
import Derived.Test.YtcplcanaonmmpaaGreatDoorP8e
import Derived.Test.YtcplcanaonmmpaaGreatDoorWd
import Derived.Test.YtcplcanaonmmpaaGreatDoorWe
import Derived.Test.YtcplcanaonmmpaaGreatDoorCards
import Derived.ProofKit
import Derived.OpenShut
import Derived.LaidMore
import Derived.Lay
import Derived.SevenTiedAt
import Derived.Stop.Joined
import Derived.Lib.SmallJoins
set_option linter.unusedVariables false
set_option linter.unusedSimpArgs false
namespace Go.Proofs.YtcplcanaonmmpaaGreatDoor
open Go.ChangeShapes Go.WideShapes Go.ChangeAt Go.RowKit Go.Joins
set_option maxRecDepth 100000 in
theorem lifted8 (os : Os) (started : os.Started) (H : Type) (enc : TypeId × Value → H) :
 ReturnsInHanded {} Tryz.checked os 8 .any (fun w args => (Rows.worldQueueMatchesSpecSpec.pre enc Tryz.prog Tryz.f8 Rows.worldQueueMatchesSpecRow.domain false w args ∧ laidMetH Tryz.prog Rows.worldQueueMatchesSpecRow.laid w) ∧ sizedMet enc Tryz.prog Tryz.f8 (OpenSpec.ofChange Rows.worldQueueMatchesSpecSpec) false w args)
  (Rows.worldQueueMatchesSpecSpec.post enc Tryz.prog Tryz.f8 false true false false) := by
 refine returnsInHanded_of_change_and (C := Tryz.checked) (X := fun w _ => laidMetH Tryz.prog Rows.worldQueueMatchesSpecRow.laid w) (fun _ _ _ hh h => h.of_heap hh) Go.T9.own1 started (by kernel_rfl) Tryz.func8
  (ChangeSpec.witness_shaped (enc := enc) (C := Tryz.checked) (os := os) (X := fun w _ => laidMetH Tryz.prog Rows.worldQueueMatchesSpecRow.laid w) false (World.laidAll Tryz.prog os Rows.worldQueueMatchesSpecRow.laid) #[.slice none 0 0, .slice none 0 0, .int .i64 0, .int .i64 0] 8 (World.laidAll_os _ _ _)
   (World.shaped_of_ZipB (Go.T9.zipL8 os) (Go.T9.restL8 os)) (by kernel_rfl) (by kernel_rfl) (by kernel_rfl)
   (by rw [MakeChecks.laidMetH_plain _ _ _ (by kernel_rfl)]; exact laidMet_laidAll _ (Go.T9.layFL7 os) (Go.T9.layIL7 os))) ?_
 intro W base args ds gs before hval0 hW hc _ hL _
 have hval : ∀ (j : Nat) t v, Tryz.f8.params[j]? = some t → args[j]? = some v → Value.okWide Tryz.prog W .any base t v := hval0
 have hW' := hW
 obtain ⟨p, q, hA0, hV, rfl, _, _⟩ := hW
 have hA : DataW.TrodAll enc Tryz.prog W 0 (fun _ => true) true Tryz.f8.params.toList args.toList ds p := hA0
 rw [Tryz.params8] at hA hval
 obtain ⟨v0, vs0, d0, ds0, p0, q0, hargs, rfl, rfl, h0, r0⟩ := trodAll_cons hA
 obtain ⟨v1, vs1, d1, ds1, p1, q1, rfl, rfl, rfl, h1, r1⟩ := trodAll_cons r0
 obtain ⟨v2, vs2, d2, ds2, p2, q2, rfl, rfl, rfl, h2, r2⟩ := trodAll_cons r1
 obtain ⟨v3, vs3, d3, ds3, p3, q3, rfl, rfl, rfl, h3, r3⟩ := trodAll_cons r2
 obtain ⟨rfl, rfl, rfl⟩ := trodAll_nil r3
 obtain rfl : args = #[v0, v1, v2, v3] := by cases args; simp_all
 obtain ⟨rfl, rfl⟩ := trodVars_none hV
 obtain ⟨a0, ha0, hv0⟩ := T9.arg_is (hval 0 24 v0 rfl rfl) h0
 obtain ⟨a1, ha1, hv1⟩ := T9.arg_is (hval 1 24 v1 rfl rfl) h1
 obtain ⟨x2, rfl, rfl, rfl, w2⟩ := open_int Tryz.underlying3 (hval 2 3 v2 rfl rfl) h2
 obtain ⟨x3, rfl, rfl, rfl, w3⟩ := open_int Tryz.underlying3 (hval 3 3 v3 rfl rfl) h3
 refine (T9.queue_law a0 a1 x2 x3 ha0 ha1 W hv0 hv1).mono fun e W' ⟨he, hb⟩ => ?_
 subst he
 exact ⟨_, rfl, AM.law_post Go.T9.laidOut Go.T9.readable8 rfl hW' rfl (fun _ _ _ => trodAll_mk1 (shut_bool Tryz.underlying4 _)) hb⟩
theorem holds8 : Rows.WorldQueueMatchesSpecSaid :=
 OpenClaim.holds_of_wide 8 Tryz.f8 rfl rfl rfl rfl rfl rfl rfl ⟨rfl, rfl, rfl, rfl, rfl⟩ rfl rfl rfl rfl rfl Go.T9.named8 Tryz.func8 Go.T9.joined8
  (of_decide_eq_true (by kernel_rfl)) (by unfold Func.isWrapper; first | (rw [if_pos (by decide +kernel)]; kernel_rfl) | (rw [if_neg (by decide +kernel)]; exact ⟨rfl, rfl⟩))
  (fun os started H enc _ => lifted8 os started H enc)
theorem card8_holds : Rows.WorldQueueMatchesSpecCardSaid :=
 Claim7.holds_tied_plain_at .later [] [.data, .pinned, .data, .data, .data, .pinned, .data, .data, .sentinel, .sentinel] true (true, "816d973a6e4ffcd795813e8eee29f166d90194abde9af9386f293ba4f068b51f") true holds8 (fun _ h => by cases h) Go.T9.wft8 (fun _ h => by cases h) Go.T9.row_tie8 rfl ⟨rfl, rfl⟩ (by kernel_rfl) rfl
  (fun f fn hf hfn => by
   obtain rfl : f = 8 := Option.some.inj (Go.T9.named8.symm.trans hf) |>.symm
   obtain rfl : fn = Tryz.f8 := (Option.some.inj (Tryz.func8.symm.trans hfn)).symm
   exact ⟨Go.T9.looks1.symm, fun j t ht => by
    rw [Tryz.params8] at ht
    have hm : t ∈ [24, 24, 3, 3] := by simpa using Array.mem_of_getElem? ht
    have hall : ([24, 24, 3, 3].all fun u => !Tryz.prog.wantsStandIn u) = true := by
     unfold Program.wantsStandIn Program.underlying
     rw [Go.T9.hT.2]
     kernel_rfl
    exact (show Tryz.prog.wantsStandIn t = false by simpa using List.all_eq_true.1 hall t hm)⟩)
  (by unfold OpenClaim.goesBy; exact Go.T9.goes8.symm)
end Go.Proofs.YtcplcanaonmmpaaGreatDoor
