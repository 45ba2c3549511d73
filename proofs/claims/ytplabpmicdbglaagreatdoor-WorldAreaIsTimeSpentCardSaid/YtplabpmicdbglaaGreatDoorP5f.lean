/- A part of the proof. -/
import Derived.Test.YtplabpmicdbglaaGreatDoorU4
import Derived.Test.YtplabpmicdbglaaGreatDoorP5b
import Derived.Test.YtplabpmicdbglaaGreatDoorP5c
import Derived.Test.YtplabpmicdbglaaGreatDoorP5d
import Derived.Test.YtplabpmicdbglaaGreatDoorP5e
import Derived.Test.YtplabpmicdbglaaGreatDoorWd
import Derived.Test.YtplabpmicdbglaaGreatDoorWe
import Derived.Test.YtplabpmicdbglaaGreatDoorCards
import Derived.ProofKit
import Derived.OpenShut
import Derived.LaidMore
import Derived.Lay
import Derived.SevenTiedAt
import Derived.Stop.Joined
import Derived.Lib.SmallJoins
set_option linter.unusedVariables false
namespace Go.Proofs.YtplabpmicdbglaaGreatDoor
open Go.ChangeShapes Go.WideShapes Go.ChangeAt Go.RowKit Go.Joins
set_option maxRecDepth 100000 in
theorem lifted5 (os : Os) (started : os.Started) (H : Type) (enc : TypeId × Value → H) :
    ReturnsInHanded {} Tryz.checked os 5 .any (fun w args => (Rows.worldAreaIsTimeSpentSpec.pre enc Tryz.prog Tryz.f5 Rows.worldAreaIsTimeSpentRow.domain false w args ∧ laidMetH Tryz.prog Rows.worldAreaIsTimeSpentRow.laid w) ∧ sizedMet enc Tryz.prog Tryz.f5 (OpenSpec.ofChange Rows.worldAreaIsTimeSpentSpec) false w args)
      (Rows.worldAreaIsTimeSpentSpec.post enc Tryz.prog Tryz.f5 false true false false) := by
  refine returnsInHanded_of_change_and (C := Tryz.checked) (X := fun w _ => laidMetH Tryz.prog Rows.worldAreaIsTimeSpentRow.laid w) (fun _ _ _ hh h => h.of_heap hh) Go.T9.own1 started (by kernel_rfl) Tryz.func5
    (ChangeSpec.witness_shaped (enc := enc) (C := Tryz.checked) (os := os) (X := fun w _ => laidMetH Tryz.prog Rows.worldAreaIsTimeSpentRow.laid w) false (World.laidAll Tryz.prog os Rows.worldAreaIsTimeSpentRow.laid) #[.agg #[.int .i64 0, .slice none 0 0, .slice none 0 0], .int .i64 0] 8 (World.laidAll_os _ _ _)
      (World.shaped_of_ZipB (Go.T9.zipL5 os) (Go.T9.restL5 os)) (by kernel_rfl) (by kernel_rfl) (by kernel_rfl)
      (by rw [MakeChecks.laidMetH_plain _ _ _ (by kernel_rfl)]; exact laidMet_laidAll _ (Go.T9.layFL5 os) (Go.T9.layIL5 os))) ?_
  intro W base args ds gs before hval0 hW hc _ hL _
  have hval : ∀ (j : Nat) t v, Tryz.f5.params[j]? = some t → args[j]? = some v → Value.okWide Tryz.prog W .any base t v := hval0
  have hW' := hW
  obtain ⟨p, q, hA0, hV, rfl, _, _⟩ := hW
  have hA : DataW.TrodAll enc Tryz.prog W 0 (fun _ => true) true Tryz.f5.params.toList args.toList ds p := hA0
  rw [Tryz.params5] at hA hval
  obtain ⟨v0, vs0, d0, ds0, p0, q0, hargs, rfl, rfl, h0, r0⟩ := trodAll_cons hA
  obtain ⟨v1, vs1, d1, ds1, p1, q1, rfl, rfl, rfl, h1, r1⟩ := trodAll_cons r0
  obtain ⟨rfl, rfl, rfl⟩ := trodAll_nil r1
  obtain rfl : args = #[v0, v1] := by cases args; simp_all
  obtain ⟨rfl, rfl⟩ := trodVars_none hV
  obtain ⟨u0, ts0, vs0, hv⟩ := T9.arg_log (hval 0 25 v0 rfl rfl) h0
  obtain ⟨x1, rfl, rfl, rfl, w1⟩ := open_int Tryz.underlying3 (hval 1 3 v1 rfl rfl) h1
  refine (T9.timespent_law u0 x1 ts0 vs0 W hv).mono fun e W' ⟨he, hb⟩ => ?_
  subst he
  exact ⟨_, rfl, AM.law_post Go.T9.laidOut Go.T9.readable5 rfl hW' rfl (fun _ _ _ => trodAll_mk1 (shut_bool Tryz.underlying4 _)) hb⟩
theorem holds5 : Rows.WorldAreaIsTimeSpentSaid :=
  OpenClaim.holds_of_wide 5 Tryz.f5 rfl rfl rfl rfl rfl rfl rfl ⟨rfl, rfl, rfl, rfl, rfl⟩ rfl rfl rfl rfl rfl Go.T9.named5 Tryz.func5 Go.T9.joined5
    (of_decide_eq_true (by kernel_rfl)) (by unfold Func.isWrapper; first | (rw [if_pos (by decide +kernel)]; kernel_rfl) | (rw [if_neg (by decide +kernel)]; exact ⟨rfl, rfl⟩))
    (fun os started H enc _ => lifted5 os started H enc)
theorem card5_holds : Rows.WorldAreaIsTimeSpentCardSaid :=
  Claim7.holds_tied_plain_at .later [] [.data, .pinned, .data, .data, .data, .pinned, .data, .data, .sentinel, .sentinel] true (true, "5fd8b883075d090c724f10debf39ed2ce67b0f821b93825530f34483e3229d16") true holds5 (fun _ h => by cases h) Go.T9.wft5 (fun _ h => by cases h) Go.T9.row_tie5 rfl ⟨rfl, rfl⟩ (by kernel_rfl) rfl
    (fun f fn hf hfn => by
      obtain rfl : f = 5 := Option.some.inj (Go.T9.named5.symm.trans hf) |>.symm
      obtain rfl : fn = Tryz.f5 := (Option.some.inj (Tryz.func5.symm.trans hfn)).symm
      exact ⟨Go.T9.looks1.symm, fun j t ht => by
        rw [Tryz.params5] at ht
        have hm : t ∈ [25, 3] := by simpa using Array.mem_of_getElem? ht
        have hall : ([25, 3].all fun u => !Tryz.prog.wantsStandIn u) = true := by
          unfold Program.wantsStandIn Program.underlying
          rw [Go.T9.hT.2]
          kernel_rfl
        exact (show Tryz.prog.wantsStandIn t = false by simpa using List.all_eq_true.1 hall t hm)⟩)
    (by unfold OpenClaim.goesBy; exact Go.T9.goes5.symm)
end Go.Proofs.YtplabpmicdbglaaGreatDoor
