/- A part of the proof. -/
import Derived.Test.YtdgjjfkjhikbaaaDoorV7
import Derived.ChangeMaps5
import Derived.Test.YtdgjjfkjhikbaaaDoorP3b
import Derived.Test.YtdgjjfkjhikbaaaDoorP3c
import Derived.Test.YtdgjjfkjhikbaaaDoorP3d
import Derived.Test.YtdgjjfkjhikbaaaDoorP3e
import Derived.Test.YtdgjjfkjhikbaaaDoorWd
import Derived.Test.YtdgjjfkjhikbaaaDoorWe
import Derived.Test.YtdgjjfkjhikbaaaDoorCards
import Derived.ProofKit
import Derived.OpenShut
import Derived.LaidMore
import Derived.Lay
import Derived.SevenTiedAt
import Derived.Stop.Joined
import Derived.Lib.SmallJoins
set_option linter.unusedVariables false
set_option linter.unusedSimpArgs false
namespace Go.Proofs.YtdgjjfkjhikbaaaDoor
open Go.ChangeShapes Go.WideShapes Go.ChangeAt Go.RowKit Go.Joins
set_option maxRecDepth 100000 in
theorem lifted4 (os : Os) (started : os.Started) (H : Type) (enc : TypeId × Value → H) :
 ReturnsInHanded {} Tryd.checked os 4 .any (fun w args => (Rows.patternCoversMatchesSpecSpec.pre enc Tryd.prog Tryd.f4 Rows.patternCoversMatchesSpecRow.domain false w args ∧ laidMetH Tryd.prog Rows.patternCoversMatchesSpecRow.laid w) ∧ sizedMet enc Tryd.prog Tryd.f4 (OpenSpec.ofChange Rows.patternCoversMatchesSpecSpec) false w args)
  (Rows.patternCoversMatchesSpecSpec.post enc Tryd.prog Tryd.f4 false true false false) := by
 refine returnsInHanded_of_change_and (C := Tryd.checked) (X := fun w _ => laidMetH Tryd.prog Rows.patternCoversMatchesSpecRow.laid w) (fun _ _ _ hh h => h.of_heap hh) Go.T9.own1 started (by kernel_rfl) Tryd.func4
  (ChangeSpec.witness_shaped (enc := enc) (C := Tryd.checked) (os := os) (X := fun w _ => laidMetH Tryd.prog Rows.patternCoversMatchesSpecRow.laid w) false (World.laidAll Tryd.prog os Rows.patternCoversMatchesSpecRow.laid) #[.agg #[.int .i64 0, .slice none 0 0, .slice none 0 0], .agg #[.int .i64 0, .slice none 0 0, .slice none 0 0], .string .empty] 8 (World.laidAll_os _ _ _)
   (World.shaped_of_ZipB (Go.T9.zipL4 os) (Go.T9.restL4 os)) (by kernel_rfl) (by kernel_rfl) (by kernel_rfl)
   (by rw [MakeChecks.laidMetH_plain _ _ _ (by kernel_rfl)]; exact laidMet_laidAll _ (Go.T9.layFL4 os) (Go.T9.layIL4 os))) ?_
 intro W base args ds gs before hval0 hW hc _ hL _
 have hval : ∀ (j : Nat) t v, Tryd.f4.params[j]? = some t → args[j]? = some v → Value.okWide Tryd.prog W .any base t v := hval0
 have hW' := hW
 obtain ⟨p, q, hA0, hV, rfl, _, _⟩ := hW
 have hA : DataW.TrodAll enc Tryd.prog W 0 (fun _ => true) true Tryd.f4.params.toList args.toList ds p := hA0
 rw [Tryd.params4] at hA hval
 obtain ⟨v0, vs0, d0, ds0, p0, q0, hargs, rfl, rfl, h0, r0⟩ := trodAll_cons hA
 obtain ⟨v1, vs1, d1, ds1, p1, q1, rfl, rfl, rfl, h1, r1⟩ := trodAll_cons r0
 obtain ⟨v2, vs2, d2, ds2, p2, q2, rfl, rfl, rfl, h2, r2⟩ := trodAll_cons r1
 obtain ⟨rfl, rfl, rfl⟩ := trodAll_nil r2
 obtain rfl : args = #[v0, v1, v2] := by cases args; simp_all
 obtain ⟨rfl, rfl⟩ := trodVars_none hV
 obtain ⟨a0, ha0, hv0⟩ := T9.arg_au (hval 0 29 v0 rfl rfl) h0
 obtain ⟨a1, ha1, hv1⟩ := T9.arg_au (hval 1 29 v1 rfl rfl) h1
 obtain ⟨s2, rfl, rfl, rfl, hs2⟩ := Go.ChangeMaps.open_string Tryd.underlying9 (hval 2 9 v2 rfl rfl) h2
 refine (T9.covers_law a0 a1 s2 ha0 ha1 (T9.le_max hs2) W (T9.glob_laid (laid := Rows.patternCoversMatchesSpecRow.laid) (List.Mem.head _) (by kernel_rfl) hL) hv0 hv1).mono fun e W' ⟨he, hb⟩ => ?_
 subst he
 exact ⟨_, rfl, AM.law_post Go.T9.laidOut Go.T9.readable4 rfl hW' rfl (fun _ _ _ => trodAll_mk1 (shut_bool Tryd.underlying4 _)) hb⟩
theorem holds4 : Rows.PatternCoversMatchesSpecSaid :=
 OpenClaim.holds_of_wide 4 Tryd.f4 rfl rfl rfl rfl rfl rfl rfl ⟨rfl, rfl, rfl, rfl, rfl⟩ rfl rfl rfl rfl rfl Go.T9.named4 Tryd.func4 Go.T9.joined4
  (of_decide_eq_true (by kernel_rfl)) (by unfold Func.isWrapper; first | (rw [if_pos (by decide +kernel)]; kernel_rfl) | (rw [if_neg (by decide +kernel)]; exact ⟨rfl, rfl⟩))
  (fun os started H enc _ => lifted4 os started H enc)
theorem card4_holds : Rows.PatternCoversMatchesSpecCardSaid :=
 Claim7.holds_tied_plain_at .later [] [.data] true (true, "52b880b959f99e33f7d2aa9fff233363538bf832e5f8def4c27979812ebc9bd0") false holds4 (fun _ h => by cases h) Go.T9.wft4 (fun _ h => by cases h) Go.T9.row_tie4 rfl ⟨rfl, rfl⟩ (by kernel_rfl) rfl
  (fun f fn hf hfn => by
   obtain rfl : f = 4 := Option.some.inj (Go.T9.named4.symm.trans hf) |>.symm
   obtain rfl : fn = Tryd.f4 := (Option.some.inj (Tryd.func4.symm.trans hfn)).symm
   exact ⟨Go.T9.looks1.symm, fun j t ht => by
    rw [Tryd.params4] at ht
    have hm : t ∈ [29, 29, 9] := by simpa using Array.mem_of_getElem? ht
    have hall : ([29, 29, 9].all fun u => !Tryd.prog.wantsStandIn u) = true := by
     unfold Program.wantsStandIn Program.underlying
     rw [Go.T9.hT.2]
     kernel_rfl
    exact (show Tryd.prog.wantsStandIn t = false by simpa using List.all_eq_true.1 hall t hm)⟩)
  (by unfold OpenClaim.goesBy; exact Go.T9.goes4.symm)
end Go.Proofs.YtdgjjfkjhikbaaaDoor
