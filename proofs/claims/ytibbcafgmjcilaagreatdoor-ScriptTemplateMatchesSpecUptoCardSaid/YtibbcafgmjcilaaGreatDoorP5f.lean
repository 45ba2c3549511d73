/- A part of the proof. -/
import Derived.Test.YtibbcafgmjcilaaGreatDoorX7
import Derived.ChangeMaps5
import Derived.Test.YtibbcafgmjcilaaGreatDoorP5b
import Derived.Test.YtibbcafgmjcilaaGreatDoorP5c
import Derived.Test.YtibbcafgmjcilaaGreatDoorP5d
import Derived.Test.YtibbcafgmjcilaaGreatDoorP5e
import Derived.Test.YtibbcafgmjcilaaGreatDoorWd
import Derived.Test.YtibbcafgmjcilaaGreatDoorWe
import Derived.Test.YtibbcafgmjcilaaGreatDoorCards
import Derived.ProofKit
import Derived.OpenShut
import Derived.LaidMore
import Derived.Lay
import Derived.SevenTiedAt
import Derived.Stop.Joined
import Derived.Lib.SmallJoins
import Derived.JoinedCond
import Derived.Deep.DeepHandedRow
set_option linter.unusedVariables false
namespace Go.Proofs.YtibbcafgmjcilaaGreatDoor
open Go.ChangeShapes Go.WideShapes Go.ChangeAt Go.RowKit Go.Joins
theorem witness_row5 {H : Type} {enc : TypeId × Value → H} {C : Checked} {os : Os} {f : FuncId} {fn : Func} {s : OpenSpec} {conds : List PathCond} {apart : Bool} {laid : List (String × DataW Unit)} (modest : Bool) (w0 : World) (args : Array Value) (hos : w0.os = os)
    (hsh : (w0.forCall (fun _ _ => 0) ⟨#[], args, []⟩).Shaped C.prog)
    (hok : Input.okWideB C.prog (w0.forCall (fun _ _ => 0) ⟨#[], args, []⟩) f ⟨#[], args, []⟩ = true)
    (hrow : s.preRow enc C.prog fn conds apart laid (w0.forCall (fun _ _ => 0) ⟨#[], args, []⟩).memory args) :
    ∃ (w : World) (tape : Tape) (i : Input), w.os = os ∧ (w.forCall tape i).Shaped C.prog ∧ i.vars = [] ∧ Input.okWide C.prog (w.forCall tape i) .any w.heap.size f i ∧
      s.preRow enc C.prog fn conds apart laid (w.forCall tape i).memory i.args ∧ ({ modest := modest } : Assume).holds C.prog (lone (Frame.enter C.prog f i.args .normal) [] (w.forCall tape i)) :=
  ⟨w0, fun _ _ => 0, ⟨#[], args, []⟩, hos, hsh, (Input.okWide_of_okWideB (base := 0) hok).1, (Input.okWide_of_okWideB hok).2, hrow, by
    simp only [Assume.holds]
    exact ⟨by simp, by simp, fun _ => Modest.zero, by simp, by simp⟩⟩
theorem reads5 (os : Os) {H : Type} (enc : TypeId × Value → H) : DataW.whole enc Tryz.prog ((World.laidAll Tryz.prog os Rows.scriptTemplateMatchesSpecUptoRow.laid).forCall (fun _ _ => 0) ⟨#[], #[.string .empty, .slice none 0 0], []⟩).memory Tryz.f5.params.toList (Rows.OpenSpec.upto Rows.scriptTemplateMatchesSpecSpec).vars false #[.string .empty, .slice none 0 0].toList 8 = some ([.lit (.string []), .nil], [], []) := by kernel_rfl
set_option maxRecDepth 100000 in
theorem lifted5 (os : Os) (started : os.Started) (H : Type) (enc : TypeId × Value → H) (F : Stop.Interp) :
    ReturnsInHanded {} Tryz.checked os 5 .any ((Rows.OpenSpec.upto Rows.scriptTemplateMatchesSpecSpec).preRow enc Tryz.prog Tryz.f5 Rows.scriptTemplateMatchesSpecUptoRow.domain false Rows.scriptTemplateMatchesSpecUptoRow.laid) (((Rows.OpenSpec.upto Rows.scriptTemplateMatchesSpecSpec).at F).post enc Tryz.prog Tryz.f5 false true false false) := by
  refine returnsInHanded_of_row (C := Tryz.checked) (s := (Rows.OpenSpec.upto Rows.scriptTemplateMatchesSpecSpec)) Go.T9.own1 started (by kernel_rfl) Tryz.func5
    (witness_row5 (enc := enc) (C := Tryz.checked) false (World.laidAll Tryz.prog os Rows.scriptTemplateMatchesSpecUptoRow.laid) #[.string .empty, .slice none 0 0] (World.laidAll_os _ _ _)
      (World.shaped_of_ZipB (Go.T9.zipL5 os) (Go.T9.restL5 os)) (by kernel_rfl)
      (OpenSpec.preRow_of_cond 8 (reads5 os enc) (by kernel_rfl) (fun k hk => by cases hk; kernel_rfl) (by kernel_rfl)
        (by rw [MakeChecks.laidMetH_plain _ _ _ (by kernel_rfl)]; exact laidMet_laidAll _ (Go.T9.layFL5 os) (Go.T9.layIL5 os)))) ?_
  intro W base args ds gs before hval0 hW hc hcond _ hL _ _
  have hval : ∀ (j : Nat) t v, Tryz.f5.params[j]? = some t → args[j]? = some v → Value.okWide Tryz.prog W .any base t v := hval0
  have hbulk : Rows.uptoBulkAll (ds ++ gs) ≤ 1048576 := of_decide_eq_true (hcond _ rfl)
  have hW' := hW
  obtain ⟨p, q, hA0, hV, rfl, _, _⟩ := hW
  have hA : DataW.TrodAll enc Tryz.prog W 0 (fun _ => true) true Tryz.f5.params.toList args.toList ds p := hA0
  rw [Tryz.params5] at hA hval
  obtain ⟨v0, vs0, d0, ds0, p0, q0, hargs, rfl, rfl, h0, r0⟩ := trodAll_cons hA
  obtain ⟨v1, vs1, d1, ds1, p1, q1, rfl, rfl, rfl, h1, r1⟩ := trodAll_cons r0
  obtain ⟨rfl, rfl, rfl⟩ := trodAll_nil r1
  obtain rfl : args = #[v0, v1] := by cases args; simp_all
  obtain ⟨rfl, rfl⟩ := trodVars_none hV
  obtain ⟨s0, rfl, rfl, rfl, _⟩ := Go.ChangeMaps.open_string Tryz.underlying9 (hval 0 9 v0 rfl rfl) h0
  obtain ⟨l0, hl0, hv⟩ := T9.arg_vars (hval 1 36 v1 rfl rfl) h1 (Nat.le_trans (T9.bulk_part (by simp)) hbulk)
  refine (T9.tpl_law s0 l0 hl0 W hv).mono fun e W' ⟨he, hb⟩ => ?_
  subst he
  exact ⟨_, rfl, AM.law_post (s := Rows.scriptTemplateMatchesSpecSpec) Go.T9.laidOut Go.T9.readable5 rfl hW' rfl (fun _ _ _ => trodAll_mk1 (shut_bool Tryz.underlying4 _)) hb⟩
theorem holds5 : Rows.ScriptTemplateMatchesSpecUptoSaid :=
  OpenClaim.holds_of_cond 5 Tryz.f5 rfl rfl rfl rfl rfl rfl rfl ⟨rfl, rfl, rfl, rfl, rfl⟩ rfl rfl rfl rfl rfl Go.T9.named5 Tryz.func5 Go.T9.joined5
    (of_decide_eq_true (by kernel_rfl)) (by unfold Func.isWrapper; first | (rw [if_pos (by decide +kernel)]; kernel_rfl) | (rw [if_neg (by decide +kernel)]; exact ⟨rfl, rfl⟩))
    (fun os started H enc _ F => by rw [OpenClaim.pre_eq_preRow]; exact lifted5 os started H enc F)
theorem card5_holds : Rows.ScriptTemplateMatchesSpecUptoCardSaid :=
  Claim7.holds_tied_plain_at .later [] [.pinned, .data, .sentinel, .sentinel, .data, .data, .data, .data, .data, .pinned] true (true, "5efb2889a771ea1a315abb8f867873fac3e42f85a7cc50e11b8145868e93e45f") true holds5 (fun _ h => by cases h) Go.T9.wft5 (fun _ h => by cases h) Go.T9.row_tie5 rfl ⟨rfl, rfl⟩ (by kernel_rfl) rfl
    (fun f fn hf hfn => by
      obtain rfl : f = 5 := Option.some.inj (Go.T9.named5.symm.trans hf) |>.symm
      obtain rfl : fn = Tryz.f5 := (Option.some.inj (Tryz.func5.symm.trans hfn)).symm
      exact ⟨Go.T9.looks1.symm, fun j t ht => by
        rw [Tryz.params5] at ht
        have hm : t ∈ [9, 36] := by simpa using Array.mem_of_getElem? ht
        have hall : ([9, 36].all fun u => !Tryz.prog.wantsStandIn u) = true := by
          unfold Program.wantsStandIn Program.underlying
          rw [Go.T9.hT.2]
          kernel_rfl
        exact (show Tryz.prog.wantsStandIn t = false by simpa using List.all_eq_true.1 hall t hm)⟩)
    (by unfold OpenClaim.goesBy; exact Go.T9.goes5.symm)
end Go.Proofs.YtibbcafgmjcilaaGreatDoor
