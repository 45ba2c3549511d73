/-
  For all logs, Samples and Asks return what is specified.
-/
import Derived.Test.YtplabpmicdbglaaGreatDoorU4
import Derived.Test.YtplabpmicdbglaaGreatDoorP4b
import Derived.Test.YtplabpmicdbglaaGreatDoorP4c
import Derived.Test.YtplabpmicdbglaaGreatDoorP4d
import Derived.Test.YtplabpmicdbglaaGreatDoorP4e
import Derived.Test.YtplabpmicdbglaaGreatDoorWd
import Derived.Test.YtplabpmicdbglaaGreatDoorWe
import Derived.Test.YtplabpmicdbglaaGreatDoorCards
import Derived.ProofKit
import Derived.OpenShut
import Derived.LaidMore
import Derived.Lay
import Derived.SevenTiedAt
import Derived.Stop.Joined
import Derived.Lib.SmallJoins
set_option linter.unusedVariables false
namespace Go.Proofs.YtplabpmicdbglaaGreatDoor
open Go.ChangeShapes Go.WideShapes Go.ChangeAt Go.RowKit Go.Joins
set_option maxRecDepth 100000 in
theorem lifted4 (os : Os) (started : os.Started) (H : Type) (enc : TypeId × Value → H) :
    ReturnsInHanded {} Tryz.checked os 4 .any (fun w args => (Rows.worldSamplesMatchSpecSpec.pre enc Tryz.prog Tryz.f4 Rows.worldSamplesMatchSpecRow.domain false w args ∧ laidMetH Tryz.prog Rows.worldSamplesMatchSpecRow.laid w) ∧ sizedMet enc Tryz.prog Tryz.f4 (OpenSpec.ofChange Rows.worldSamplesMatchSpecSpec) false w args)
      (Rows.worldSamplesMatchSpecSpec.post enc Tryz.prog Tryz.f4 false true false false) := by
  refine returnsInHanded_of_change_and (C := Tryz.checked) (X := fun w _ => laidMetH Tryz.prog Rows.worldSamplesMatchSpecRow.laid w) (fun _ _ _ hh h => h.of_heap hh) Go.T9.own1 started (by kernel_rfl) Tryz.func4
    (ChangeSpec.witness_shaped (enc := enc) (C := Tryz.checked) (os := os) (X := fun w _ => laidMetH Tryz.prog Rows.worldSamplesMatchSpecRow.laid w) false (World.laidAll Tryz.prog os Rows.worldSamplesMatchSpecRow.laid) #[.agg #[.int .i64 0, .slice none 0 0, .slice none 0 0]] 8 (World.laidAll_os _ _ _)
      (World.shaped_of_ZipB (Go.T9.zipL4 os) (Go.T9.restL4 os)) (by kernel_rfl) (by kernel_rfl) (by kernel_rfl)
      (by rw [MakeChecks.laidMetH_plain _ _ _ (by kernel_rfl)]; exact laidMet_laidAll _ (Go.T9.layFL4 os) (Go.T9.layIL4 os))) ?_
  intro W base args ds gs before hval0 hW hc _ hL _
  have hval : ∀ (j : Nat) t v, Tryz.f4.params[j]? = some t → args[j]? = some v → Value.okWide Tryz.prog W .any base t v := hval0
  have hW' := hW
  obtain ⟨p, q, hA0, hV, rfl, _, _⟩ := hW
  have hA : DataW.TrodAll enc Tryz.prog W 0 (fun _ => true) true Tryz.f4.params.toList args.toList ds p := hA0
  rw [Tryz.params4] at hA hval
  obtain ⟨v0, vs0, d0, ds0, p0, q0, hargs, rfl, rfl, h0, r0⟩ := trodAll_cons hA
  obtain ⟨rfl, rfl, rfl⟩ := trodAll_nil r0
  obtain rfl : args = #[v0] := by cases args; simp_all
  obtain ⟨rfl, rfl⟩ := trodVars_none hV
  obtain ⟨u0, ts0, vs0, hv⟩ := T9.arg_log (hval 0 25 v0 rfl rfl) h0
  refine (T9.samples_law u0 ts0 vs0 W (T9.glob_laid (laid := Rows.worldSamplesMatchSpecRow.laid) (List.Mem.head _) (by kernel_rfl) hL) hv).mono fun e W' ⟨he, hb⟩ => ?_
  subst he
  exact ⟨_, rfl, AM.law_post Go.T9.laidOut Go.T9.readable4 rfl hW' rfl (fun _ _ _ => trodAll_mk1 (shut_bool Tryz.underlying4 _)) hb⟩

theorem holds4 : Rows.WorldSamplesMatchSpecSaid :=
  OpenClaim.holds_of_wide 4 Tryz.f4 rfl rfl rfl rfl rfl rfl rfl ⟨rfl, rfl, rfl, rfl, rfl⟩ rfl rfl rfl rfl rfl Go.T9.named4 Tryz.func4 Go.T9.joined4
    (of_decide_eq_true (by kernel_rfl)) (by unfold Func.isWrapper; first | (rw [if_pos (by decide +kernel)]; kernel_rfl) | (rw [if_neg (by decide +kernel)]; exact ⟨rfl, rfl⟩))
    (fun os started H enc _ => lifted4 os started H enc)
theorem card4_holds : Rows.WorldSamplesMatchSpecCardSaid :=
  Claim7.holds_tied_plain_at .later [] [.data, .data, .data, .pinned, .data, .data, .data, .pinned, .sentinel, .sentinel] true (true, "5fd8b883075d090c724f10debf39ed2ce67b0f821b93825530f34483e3229d16") true holds4 (fun _ h => by cases h) Go.T9.wft4 (fun _ h => by cases h) Go.T9.row_tie4 rfl ⟨rfl, rfl⟩ (by kernel_rfl) rfl
    (fun f fn hf hfn => by
      obtain rfl : f = 4 := Option.some.inj (Go.T9.named4.symm.trans hf) |>.symm
      obtain rfl : fn = Tryz.f4 := (Option.some.inj (Tryz.func4.symm.trans hfn)).symm
      exact ⟨Go.T9.looks1.symm, fun j t ht => by
        rw [Tryz.params4] at ht
        have hm : t ∈ [25] := by simpa using Array.mem_of_getElem? ht
        have hall : ([25].all fun u => !Tryz.prog.wantsStandIn u) = true := by
          unfold Program.wantsStandIn Program.underlying
          rw [Go.T9.hT.2]
          kernel_rfl
        exact (show Tryz.prog.wantsStandIn t = false by simpa using List.all_eq_true.1 hall t hm)⟩)
    (by unfold OpenClaim.goesBy; exact Go.T9.goes4.symm)
end Go.Proofs.YtplabpmicdbglaaGreatDoor
