/-
  Proved: for all links, sizes, seeds and numbers, CheckLink and Travel of the program return what the reference returns, and the law's own small world runs as told: the law returns true, and each argument reads behind the call as it read before. No condition.
-/
import Derived.Test.YtdoofogkkgpjiaaGreatDoorX
import Derived.Test.YtdoofogkkgpjiaaGreatDoorK
import Derived.Test.YtdoofogkkgpjiaaGreatDoorTg
import Derived.Test.YtdoofogkkgpjiaaGreatDoorWb
import Derived.Test.YtdoofogkkgpjiaaGreatDoorWc
import Derived.Test.YtdoofogkkgpjiaaGreatDoorWd
import Derived.Test.YtdoofogkkgpjiaaGreatDoorWe
import Derived.Test.YtdoofogkkgpjiaaGreatDoorCards
import Derived.ProofKit
import Derived.OpenShut
import Derived.LaidMore
import Derived.Lay
import Derived.SevenTiedAt
import Derived.Stop.Joined
import Derived.Lib.SmallJoins
set_option linter.unusedVariables false
namespace Go.Proofs.YtdoofogkkgpjiaaGreatDoor
open Go.ChangeShapes Go.WideShapes Go.ChangeAt Go.RowKit Go.Joins

theorem cells23 : Tryz.prog.cellsOf 23 = 4 := by kernel_rfl
set_option maxRecDepth 100000 in
theorem lifted (os : Os) (started : os.Started) (H : Type) (enc : TypeId × Value → H) :
    ReturnsInHanded {} Tryz.checked os 3 .any (fun w args => (Rows.worldTravelMatchesSpecSpec.pre enc Tryz.prog Tryz.f3 Rows.worldTravelMatchesSpecRow.domain false w args ∧ laidMetH Tryz.prog Rows.worldTravelMatchesSpecRow.laid w) ∧ sizedMet enc Tryz.prog Tryz.f3 (OpenSpec.ofChange Rows.worldTravelMatchesSpecSpec) false w args)
      (Rows.worldTravelMatchesSpecSpec.post enc Tryz.prog Tryz.f3 false true false false) := by
  refine returnsInHanded_of_change_and (C := Tryz.checked) (X := fun w _ => laidMetH Tryz.prog Rows.worldTravelMatchesSpecRow.laid w) (fun _ _ _ hh h => h.of_heap hh) T8.own1 started (by kernel_rfl) Tryz.func3
    (ChangeSpec.witness_shaped (enc := enc) (C := Tryz.checked) (os := os) (X := fun w _ => laidMetH Tryz.prog Rows.worldTravelMatchesSpecRow.laid w) false (World.laidAll Tryz.prog os Rows.worldTravelMatchesSpecRow.laid) #[.agg #[.int .i64 0, .int .i64 0, .int .i64 0, .int .i64 0], .int .i64 0, .int .i64 0, .int .i64 0, .int .i64 0] 8 (World.laidAll_os _ _ _)
      (World.shaped_of_ZipB (T8.zip os) (T8.rest os)) (by kernel_rfl) (by kernel_rfl) (by kernel_rfl)
      (by rw [MakeChecks.laidMetH_plain _ _ _ (by kernel_rfl)]; exact laidMet_laidAll _ (T8.layF os) (T8.layI os))) ?_
  intro W base args ds gs before hval0 hW hc _ hL _
  have hval : ∀ (j : Nat) t v, Tryz.f3.params[j]? = some t → args[j]? = some v → Value.okWide Tryz.prog W .any base t v := hval0
  have hW' := hW
  obtain ⟨p, q, hA0, hV, rfl, _, _⟩ := hW
  have hA : DataW.TrodAll enc Tryz.prog W 0 (fun _ => true) true Tryz.f3.params.toList args.toList ds p := hA0
  rw [Tryz.params3] at hA hval
  obtain ⟨v0, vs0, d0, ds0, p0, q0, hargs, rfl, rfl, h0, r0⟩ := trodAll_cons hA
  obtain ⟨v1, vs1, d1, ds1, p1, q1, rfl, rfl, rfl, h1, r1⟩ := trodAll_cons r0
  obtain ⟨v2, vs2, d2, ds2, p2, q2, rfl, rfl, rfl, h2, r2⟩ := trodAll_cons r1
  obtain ⟨v3, vs3, d3, ds3, p3, q3, rfl, rfl, rfl, h3, r3⟩ := trodAll_cons r2
  obtain ⟨v4, vs4, d4, ds4, p4, q4, rfl, rfl, rfl, h4, r4⟩ := trodAll_cons r3
  obtain ⟨rfl, rfl, rfl⟩ := trodAll_nil r4
  obtain rfl : args = #[v0, v1, v2, v3, v4] := by cases args; simp_all
  obtain ⟨rfl, rfl⟩ := trodVars_none hV
  obtain ⟨c0, c1, c2, c3, y0, y1, y2, y3, m, rfl, rfl, rfl, hy0, hy1, hy2, hy3⟩ := open_agg4 Tryz.underlying23 (by kernel_rfl) cells23 (hval 0 23 v0 rfl rfl) h0
  obtain ⟨a, e0, rfl, wa⟩ := DataW.trod_int Tryz.underlying3 hy0
  obtain ⟨b, e1, rfl, wb⟩ := DataW.trod_int Tryz.underlying3 hy1
  obtain ⟨c, e2, rfl, wc⟩ := DataW.trod_int Tryz.underlying3 hy2
  obtain ⟨d, e3, rfl, wd⟩ := DataW.trod_int Tryz.underlying3 hy3
  simp at e0 e1 e2 e3
  subst e0 e1 e2 e3
  obtain ⟨x1, rfl, rfl, rfl, w1⟩ := open_int Tryz.underlying3 (hval 1 3 v1 rfl rfl) h1
  obtain ⟨x2, rfl, rfl, rfl, w2⟩ := open_int Tryz.underlying3 (hval 2 3 v2 rfl rfl) h2
  obtain ⟨x3, rfl, rfl, rfl, w3⟩ := open_int Tryz.underlying3 (hval 3 3 v3 rfl rfl) h3
  obtain ⟨x4, rfl, rfl, rfl, w4⟩ := open_int Tryz.underlying3 (hval 4 3 v4 rfl rfl) h4
  refine (T8.law_calls a b c d x1 x2 x3 x4 W).mono fun e W' ⟨he, hb⟩ => ?_
  subst he
  exact ⟨_, rfl, AM.law_post T8.laidOut T8.readable3 rfl hW' rfl (fun _ _ _ => trodAll_mk1 (shut_bool Tryz.underlying4 _)) hb⟩

theorem holds : Rows.WorldTravelMatchesSpecSaid :=
  OpenClaim.holds_of_wide 3 Tryz.f3 rfl rfl rfl rfl rfl rfl rfl ⟨rfl, rfl, rfl, rfl, rfl⟩ rfl rfl rfl rfl rfl T8.named3 Tryz.func3 T8.joined
    (of_decide_eq_true (by kernel_rfl)) (by unfold Func.isWrapper; first | (rw [if_pos (by decide +kernel)]; kernel_rfl) | (rw [if_neg (by decide +kernel)]; exact ⟨rfl, rfl⟩))
    (fun os started H enc _ => lifted os started H enc)
theorem looks3 : Tryz.prog.looks [] = true := FA.looks_of 98 Tryz.func98 rfl (by kernel_rfl)
theorem card_holds : Rows.WorldTravelMatchesSpecCardSaid :=
  Claim7.holds_tied_plain_at .later [] [.data, .pinned, .data, .data, .data, .pinned, .data, .data, .sentinel, .sentinel] true (true, "43054cc2c1c4adc3562e75a823ae9961170d973855f3c428f0058bad6284ca5c") true holds (fun _ h => by cases h) T8.wf2 (fun _ h => by cases h) T8.row_tie rfl ⟨rfl, rfl⟩ (by kernel_rfl) rfl
    (fun f fn hf hfn => by
      obtain rfl : f = 3 := Option.some.inj (T8.named3.symm.trans hf) |>.symm
      obtain rfl : fn = Tryz.f3 := (Option.some.inj (Tryz.func3.symm.trans hfn)).symm
      exact ⟨looks3.symm, fun j t ht => by
        rw [Tryz.params3] at ht
        have hm : t ∈ [23, 3, 3, 3, 3] := by simpa using Array.mem_of_getElem? ht
        have hall : ([23, 3, 3, 3, 3].all fun u => !Tryz.prog.wantsStandIn u) = true := by
          unfold Program.wantsStandIn Program.underlying
          rw [T8.hT.2]
          kernel_rfl
        exact (show Tryz.prog.wantsStandIn t = false by simpa using List.all_eq_true.1 hall t hm)⟩)
    (by unfold OpenClaim.goesBy; exact T8.goes3.symm)
end Go.Proofs.YtdoofogkkgpjiaaGreatDoor
