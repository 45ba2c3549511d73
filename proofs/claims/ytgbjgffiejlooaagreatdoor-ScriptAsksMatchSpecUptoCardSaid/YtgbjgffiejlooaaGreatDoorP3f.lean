/- A part of the proof. -/
import Derived.Test.YtgbjgffiejlooaaGreatDoorZ3
import Derived.ChangeMaps5
import Derived.Test.YtgbjgffiejlooaaGreatDoorP3b
import Derived.Test.YtgbjgffiejlooaaGreatDoorP3c
import Derived.Test.YtgbjgffiejlooaaGreatDoorP3d
import Derived.Test.YtgbjgffiejlooaaGreatDoorP3e
import Derived.Test.YtgbjgffiejlooaaGreatDoorWd
import Derived.Test.YtgbjgffiejlooaaGreatDoorWe
import Derived.Test.YtgbjgffiejlooaaGreatDoorCards
import Derived.ProofKit
import Derived.OpenShut
import Derived.LaidMore
import Derived.Lay
import Derived.SevenTiedAt
import Derived.Stop.Joined
import Derived.Lib.SmallJoins
import Derived.JoinedCond
import Derived.Deep.DeepHandedRow
set_option linter.unusedVariables false
set_option linter.unusedSimpArgs false
namespace Go.Proofs.YtgbjgffiejlooaaGreatDoor
open Go.ChangeShapes Go.WideShapes Go.ChangeAt Go.RowKit Go.Joins
theorem witness_row4 {H : Type} {enc : TypeId × Value → H} {C : Checked} {os : Os} {f : FuncId} {fn : Func} {s : OpenSpec} {conds : List PathCond} {apart : Bool} {laid : List (String × DataW Unit)} (modest : Bool) (w0 : World) (args : Array Value) (hos : w0.os = os)
 (hsh : (w0.forCall (fun _ _ => 0) ⟨#[], args, []⟩).Shaped C.prog)
 (hok : Input.okWideB C.prog (w0.forCall (fun _ _ => 0) ⟨#[], args, []⟩) f ⟨#[], args, []⟩ = true)
 (hrow : s.preRow enc C.prog fn conds apart laid (w0.forCall (fun _ _ => 0) ⟨#[], args, []⟩).memory args) :
 ∃ (w : World) (tape : Tape) (i : Input), w.os = os ∧ (w.forCall tape i).Shaped C.prog ∧ i.vars = [] ∧ Input.okWide C.prog (w.forCall tape i) .any w.heap.size f i ∧
   s.preRow enc C.prog fn conds apart laid (w.forCall tape i).memory i.args ∧ ({ modest := modest } : Assume).holds C.prog (lone (Frame.enter C.prog f i.args .normal) [] (w.forCall tape i)) :=
 ⟨w0, fun _ _ => 0, ⟨#[], args, []⟩, hos, hsh, (Input.okWide_of_okWideB (base := 0) hok).1, (Input.okWide_of_okWideB hok).2, hrow, by
  simp only [Assume.holds]
  exact ⟨by simp, by simp, fun _ => Modest.zero, by simp, by simp⟩⟩
theorem reads4 (os : Os) {H : Type} (enc : TypeId × Value → H) : DataW.whole enc Tryz.prog ((World.laidAll Tryz.prog os Rows.scriptAsksMatchSpecUptoRow.laid).forCall (fun _ _ => 0) ⟨#[], #[.slice none 0 0], []⟩).memory Tryz.f4.params.toList (Rows.OpenSpec.upto Rows.scriptAsksMatchSpecSpec).vars false #[.slice none 0 0].toList 8 = some ([.nil], [], []) := by kernel_rfl
set_option maxRecDepth 100000 in
theorem lifted4 (os : Os) (started : os.Started) (H : Type) (enc : TypeId × Value → H) (F : Stop.Interp) :
 ReturnsInHanded {} Tryz.checked os 4 .any ((Rows.OpenSpec.upto Rows.scriptAsksMatchSpecSpec).preRow enc Tryz.prog Tryz.f4 Rows.scriptAsksMatchSpecUptoRow.domain false Rows.scriptAsksMatchSpecUptoRow.laid) (((Rows.OpenSpec.upto Rows.scriptAsksMatchSpecSpec).at F).post enc Tryz.prog Tryz.f4 false true false false) := by
 refine returnsInHanded_of_row (C := Tryz.checked) (s := (Rows.OpenSpec.upto Rows.scriptAsksMatchSpecSpec)) Go.T9.own1 started (by kernel_rfl) Tryz.func4
  (witness_row4 (enc := enc) (C := Tryz.checked) false (World.laidAll Tryz.prog os Rows.scriptAsksMatchSpecUptoRow.laid) #[.slice none 0 0] (World.laidAll_os _ _ _)
   (World.shaped_of_ZipB (Go.T9.zipL4 os) (Go.T9.restL4 os)) (by kernel_rfl)
   (OpenSpec.preRow_of_cond 8 (reads4 os enc) (by kernel_rfl) (fun k hk => by cases hk; kernel_rfl) (by kernel_rfl)
    (by rw [MakeChecks.laidMetH_plain _ _ _ (by kernel_rfl)]; exact laidMet_laidAll _ (Go.T9.layFL4 os) (Go.T9.layIL4 os)))) ?_
 intro W base args ds gs before hval0 hW hc hcond _ hL hSh _
 have hval : ∀ (j : Nat) t v, Tryz.f4.params[j]? = some t → args[j]? = some v → Value.okWide Tryz.prog W .any base t v := hval0
 have hbulk : Rows.uptoBulkAll (ds ++ gs) ≤ 1048576 := odt (hcond _ rfl)
 have hW' := hW
 obtain ⟨p, q, hA0, hV, rfl, _, _⟩ := hW
 have hA : DataW.TrodAll enc Tryz.prog W 0 (fun _ => true) true Tryz.f4.params.toList args.toList ds p := hA0
 rw [Tryz.params4] at hA hval
 obtain ⟨v0, vs0, d0, ds0, p0, q0, hargs, rfl, rfl, h0, r0⟩ := trodAll_cons hA
 obtain ⟨rfl, rfl, rfl⟩ := trodAll_nil r0
 obtain rfl : args = #[v0] := by cases args; simp_all
 obtain ⟨rfl, rfl⟩ := trodVars_none hV
 obtain ⟨n0, l0, hl0, hx0⟩ := T9.arg_steps (hval 0 22 v0 rfl rfl) h0 (Nat.le_trans (T9.bulk_part (by simp)) hbulk)
 refine (T9.asks_law n0 l0 hl0 W hSh hx0).mono fun e W' ⟨he, hb⟩ => ?_
 subst he
 exact ⟨_, rfl, AM.law_post (s := Rows.scriptAsksMatchSpecSpec) Go.T9.laidOut Go.T9.readable4 rfl hW' rfl (fun _ _ _ => trodAll_mk1 (shut_bool Tryz.underlying4 _)) hb⟩
theorem holds4 : Rows.ScriptAsksMatchSpecUptoSaid :=
 OpenClaim.holds_of_cond 4 Tryz.f4 rfl rfl rfl rfl rfl rfl rfl ⟨rfl, rfl, rfl, rfl, rfl⟩ rfl rfl rfl rfl rfl Go.T9.named4 Tryz.func4 Go.T9.joined4
  (odt (by kernel_rfl)) (by unfold Func.isWrapper; first | (rw [if_pos (by decide +kernel)]; kernel_rfl) | (rw [if_neg (by decide +kernel)]; exact ⟨rfl, rfl⟩))
  (fun os started H enc _ F => by rw [OpenClaim.pre_eq_preRow]; exact lifted4 os started H enc F)
theorem card4_holds : Rows.ScriptAsksMatchSpecUptoCardSaid :=
 Claim7.holds_tied_plain_at .later [] [.pinned, .data, .data, .data, .pinned, .sentinel, .sentinel, .data, .data, .data] true (true, "d1d7290f034107591a55ef555e63044db8b2d6b048bc2a2da188b196c50f3b4c") true holds4 (fun _ h => by cases h) Go.T9.wft4 (fun _ h => by cases h) Go.T9.row_tie4 rfl ⟨rfl, rfl⟩ (by kernel_rfl) rfl
  (fun f fn hf hfn => by
   obtain rfl : f = 4 := Option.some.inj (Go.T9.named4.symm.trans hf) |>.symm
   obtain rfl : fn = Tryz.f4 := (Option.some.inj (Tryz.func4.symm.trans hfn)).symm
   exact ⟨Go.T9.looks1.symm, fun j t ht => by
    rw [Tryz.params4] at ht
    have hm : t ∈ [22] := by simpa using Array.mem_of_getElem? ht
    have hall : ([22].all fun u => !Tryz.prog.wantsStandIn u) = true := by
     unfold Program.wantsStandIn Program.underlying
     rw [Go.T9.hT.2]
     kernel_rfl
    exact (show Tryz.prog.wantsStandIn t = false by simpa using List.all_eq_true.1 hall t hm)⟩)
  (by unfold OpenClaim.goesBy; exact Go.T9.goes4.symm)
end Go.Proofs.YtgbjgffiejlooaaGreatDoor
