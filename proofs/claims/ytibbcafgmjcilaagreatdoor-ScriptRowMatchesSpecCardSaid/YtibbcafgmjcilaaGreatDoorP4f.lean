/- A part of the proof. -/
import Derived.Test.YtibbcafgmjcilaaGreatDoorU2
import Derived.Test.YtibbcafgmjcilaaGreatDoorP4b
import Derived.Test.YtibbcafgmjcilaaGreatDoorP4c
import Derived.Test.YtibbcafgmjcilaaGreatDoorP4d
import Derived.Test.YtibbcafgmjcilaaGreatDoorP4e
import Derived.Test.YtibbcafgmjcilaaGreatDoorWd
import Derived.Test.YtibbcafgmjcilaaGreatDoorWe
import Derived.Test.YtibbcafgmjcilaaGreatDoorCards
import Derived.ProofKit
import Derived.OpenShut
import Derived.LaidMore
import Derived.Lay
import Derived.SevenTiedAt
import Derived.Stop.Joined
import Derived.Lib.SmallJoins
set_option linter.unusedVariables false
namespace Go.Proofs.YtibbcafgmjcilaaGreatDoor
open Go.ChangeShapes Go.WideShapes Go.ChangeAt Go.RowKit Go.Joins
set_option maxRecDepth 100000 in
theorem lifted4 (os : Os) (started : os.Started) (H : Type) (enc : TypeId × Value → H) :
    ReturnsInHanded {} Tryz.checked os 4 .any (fun w args => (Rows.scriptRowMatchesSpecSpec.pre enc Tryz.prog Tryz.f4 Rows.scriptRowMatchesSpecRow.domain false w args ∧ laidMetH Tryz.prog Rows.scriptRowMatchesSpecRow.laid w) ∧ sizedMet enc Tryz.prog Tryz.f4 (OpenSpec.ofChange Rows.scriptRowMatchesSpecSpec) false w args)
      (Rows.scriptRowMatchesSpecSpec.post enc Tryz.prog Tryz.f4 false true false false) := by
  refine returnsInHanded_of_change_and (C := Tryz.checked) (X := fun w _ => laidMetH Tryz.prog Rows.scriptRowMatchesSpecRow.laid w) (fun _ _ _ hh h => h.of_heap hh) Go.T9.own1 started (by kernel_rfl) Tryz.func4
    (ChangeSpec.witness_shaped (enc := enc) (C := Tryz.checked) (os := os) (X := fun w _ => laidMetH Tryz.prog Rows.scriptRowMatchesSpecRow.laid w) false (World.laidAll Tryz.prog os Rows.scriptRowMatchesSpecRow.laid) #[.agg #[.string .empty, .int .i64 0, .slice none 0 0, .slice none 0 0], .int .i64 0, .int .i64 0, .int .i64 0, .int .i64 0] 8 (World.laidAll_os _ _ _)
      (World.shaped_of_ZipB (Go.T9.zipL4 os) (Go.T9.restL4 os)) (by kernel_rfl) (by kernel_rfl) (by kernel_rfl)
      (by rw [MakeChecks.laidMetH_plain _ _ _ (by kernel_rfl)]; exact laidMet_laidAll _ (Go.T9.layFL4 os) (Go.T9.layIL4 os))) ?_
  intro W base args ds gs before hval0 hW hc _ hL _
  have hval : ∀ (j : Nat) t v, Tryz.f4.params[j]? = some t → args[j]? = some v → Value.okWide Tryz.prog W .any base t v := hval0
  have hW' := hW
  obtain ⟨p, q, hA0, hV, rfl, _, _⟩ := hW
  have hA : DataW.TrodAll enc Tryz.prog W 0 (fun _ => true) true Tryz.f4.params.toList args.toList ds p := hA0
  rw [Tryz.params4] at hA hval
  obtain ⟨v0, vs0, d0, ds0, p0, q0, hargs, rfl, rfl, h0, r0⟩ := trodAll_cons hA
  obtain ⟨v1, vs1, d1, ds1, p1, q1, rfl, rfl, rfl, h1, r1⟩ := trodAll_cons r0
  obtain ⟨v2, vs2, d2, ds2, p2, q2, rfl, rfl, rfl, h2, r2⟩ := trodAll_cons r1
  obtain ⟨v3, vs3, d3, ds3, p3, q3, rfl, rfl, rfl, h3, r3⟩ := trodAll_cons r2
  obtain ⟨v4, vs4, d4, ds4, p4, q4, rfl, rfl, rfl, h4, r4⟩ := trodAll_cons r3
  obtain ⟨rfl, rfl, rfl⟩ := trodAll_nil r4
  obtain rfl : args = #[v0, v1, v2, v3, v4] := by cases args; simp_all
  obtain ⟨rfl, rfl⟩ := trodVars_none hV
  obtain ⟨n0, m0, cs0, rs0, hn0, hb0, hv⟩ := T9.arg_fd (hval 0 32 v0 rfl rfl) h0
  obtain ⟨x1, rfl, rfl, rfl, w1⟩ := open_int Tryz.underlying3 (hval 1 3 v1 rfl rfl) h1
  obtain ⟨x2, rfl, rfl, rfl, w2⟩ := open_int Tryz.underlying3 (hval 2 3 v2 rfl rfl) h2
  obtain ⟨x3, rfl, rfl, rfl, w3⟩ := open_int Tryz.underlying3 (hval 3 3 v3 rfl rfl) h3
  obtain ⟨x4, rfl, rfl, rfl, w4⟩ := open_int Tryz.underlying3 (hval 4 3 v4 rfl rfl) h4
  refine (T9.row_law n0 m0 cs0 rs0 x1 x2 x3 x4 hn0 hb0 W hv).mono fun e W' ⟨he, hb⟩ => ?_
  subst he
  exact ⟨_, rfl, AM.law_post Go.T9.laidOut Go.T9.readable4 rfl hW' rfl (fun _ _ _ => trodAll_mk1 (shut_bool Tryz.underlying4 _)) hb⟩
theorem holds4 : Rows.ScriptRowMatchesSpecSaid :=
  OpenClaim.holds_of_wide 4 Tryz.f4 rfl rfl rfl rfl rfl rfl rfl ⟨rfl, rfl, rfl, rfl, rfl⟩ rfl rfl rfl rfl rfl Go.T9.named4 Tryz.func4 Go.T9.joined4
    (of_decide_eq_true (by kernel_rfl)) (by unfold Func.isWrapper; first | (rw [if_pos (by decide +kernel)]; kernel_rfl) | (rw [if_neg (by decide +kernel)]; exact ⟨rfl, rfl⟩))
    (fun os started H enc _ => lifted4 os started H enc)
theorem card4_holds : Rows.ScriptRowMatchesSpecCardSaid :=
  Claim7.holds_tied_plain_at .later [] [.pinned, .data, .sentinel, .sentinel, .data, .data, .data, .data, .data, .pinned] true (true, "5efb2889a771ea1a315abb8f867873fac3e42f85a7cc50e11b8145868e93e45f") true holds4 (fun _ h => by cases h) Go.T9.wft4 (fun _ h => by cases h) Go.T9.row_tie4 rfl ⟨rfl, rfl⟩ (by kernel_rfl) rfl
    (fun f fn hf hfn => by
      obtain rfl : f = 4 := Option.some.inj (Go.T9.named4.symm.trans hf) |>.symm
      obtain rfl : fn = Tryz.f4 := (Option.some.inj (Tryz.func4.symm.trans hfn)).symm
      exact ⟨Go.T9.looks1.symm, fun j t ht => by
        rw [Tryz.params4] at ht
        have hm : t ∈ [32, 3, 3, 3, 3] := by simpa using Array.mem_of_getElem? ht
        have hall : ([32, 3, 3, 3, 3].all fun u => !Tryz.prog.wantsStandIn u) = true := by
          unfold Program.wantsStandIn Program.underlying
          rw [Go.T9.hT.2]
          kernel_rfl
        exact (show Tryz.prog.wantsStandIn t = false by simpa using List.all_eq_true.1 hall t hm)⟩)
    (by unfold OpenClaim.goesBy; exact Go.T9.goes4.symm)
end Go.Proofs.YtibbcafgmjcilaaGreatDoor
