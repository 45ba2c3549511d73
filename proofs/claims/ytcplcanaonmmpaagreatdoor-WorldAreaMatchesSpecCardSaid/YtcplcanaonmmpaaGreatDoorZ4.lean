/- A part of the proof. -/
import Derived.Test.YtcplcanaonmmpaaGreatDoorZ3
import Derived.KernelRfl
set_option maxRecDepth 1000000
set_option linter.unusedVariables false
namespace Go.T9
open Go Go.AM
set_option maxHeartbeats 40000000
noncomputable section
def areaX (xs : List Ch) : List Value → Option Value
  | [d, .int .i64 a, .int .i64 b] => (open Classical in if d = dat 2 (xs.map cv) then some (bothA xs a b) else none)
  | _ => none
theorem areaX_at (xs : List Ch) (a b : Int) : areaX xs [dat 2 (xs.map cv), .int .i64 a, .int .i64 b] = some (bothA xs a b) := by simp [areaX]
theorem areaX_of {xs : List Ch} {args : List Value} {v : Value} (h : areaX xs args = some v) : ∃ a b, args = [dat 2 (xs.map cv), .int .i64 a, .int .i64 b] ∧ v = bothA xs a b := by
  unfold areaX at h
  split at h
  · rename_i d a b
    split at h
    · rename_i e; subst e; cases h; exact ⟨a, b, rfl, rfl⟩
    · cases h
  · cases h
theorem areaW_con (xs : List Ch) : Con env 19 (pureX (areaX xs)) := con_pure env_ok env_gl (fn := Proofs.Tryz.f19) rfl fun args v h => by
  obtain ⟨a, b, rfl, rfl⟩ := areaX_of h
  exact ⟨HF_ar xs a b, areaW_walk xs a b⟩
theorem areaRef_con (xs : List Ch) : Con env 20 (pureX (areaX xs)) := con_pure env_ok env_gl (fn := Proofs.Tryz.f20) rfl fun args v h => by
  obtain ⟨a, b, rfl, rfl⟩ := areaX_of h
  exact ⟨HF_ar xs a b, areaRef_walk xs a b⟩
theorem errA_zero {xs : List Ch} {fr to : Int} (h : errA xs fr to = 0) : xs.length ≤ 40000 ∧ faultC none xs = 0 ∧ rangeA fr to := by
  unfold errA at h
  split at h
  · simp at h
  · split at h
    · split at h
      · rename_i a b c; exact ⟨by omega, b, c⟩
      · simp at h
    · rename_i a b; exact absurd h b
theorem addA {xs : List Ch} {fr mid to : Int} (h1 : errA xs fr mid = 0) (h2 : errA xs mid to = 0) : IntKind.i64.wrap (valA xs fr mid + valA xs mid to) = valA xs fr to := by
  obtain ⟨a1, b1, c1⟩ := errA_zero h1
  obtain ⟨_, _, c2⟩ := errA_zero h2
  have h3 : errA xs fr to = 0 := errA_ok a1 b1 (by unfold rangeA at *; omega)
  unfold rangeA at c1 c2
  simp only [valA, h1, h2, h3, if_true]
  rw [wrap_add, area_add (by omega) (by omega)]
def ranXa : List Value → Option Value
  | [] => some (.bool true)
  | _ => none
theorem ran_cona : Con env 12 (pureX ranXa) := con_calls fun args v hv => by
  unfold ranXa at hv
  split at hv
  · simp only [Option.some.injEq] at hv
    subst hv
    exact ⟨rfl, rfl, ran_true⟩
  · cases hv
def tblLA (xs : List Ch) : List (FuncId × ExtF) := [(19, pureX (areaX xs)), (20, pureX (areaX xs)), (12, pureX ranXa)]
theorem tblLA_ok (xs : List Ch) : CallOk env (calls (tblLA xs)) := calls_ok (.cons (areaW_con xs) (.cons (areaRef_con xs) (.cons ran_cona .nil)))
theorem areaLaw_walk (xs : List Ch) (fr mid to : Int) : Walk env Proofs.Tryz.f5 [dat 2 (xs.map cv), .int .i64 fr, .int .i64 mid, .int .i64 to] (.bool true) := by
  refine ⟨_, _, rfl, rfl, rfl, ?_⟩
  have hcall := tblLA_ok xs
  repeat' (first
    | refine OL.eff rfl rfl rfl (eff_call rfl rfl rfl rfl (areaX_at _ _ _)) rfl ?_
    | refine OL.op rfl ?_
    | refine OL.nil ?_
    | refine Then.normal ?_
    | refine W.seq ?_
    | refine W.region env_ok hcall ?_
    | refine RL.quiet rfl rfl rfl rfl rfl rfl rfl ?_
    | refine RL.skip rfl rfl ?_
    | refine RL.read env_sym rfl rfl rfl rfl rfl rfl (by repeat' (first | exact .nil | exact .bit rfl | refine .chk ⟨_, rfl, rfl⟩ ?_)) rfl ?_
    | refine RL.alloc rfl rfl rfl rfl rfl ?_
    | refine RL.eff env_sym rfl rfl rfl rfl rfl (by repeat' (first | exact .nil | refine .bit rfl ?_ | refine .chk ⟨_, rfl, rfl⟩ ?_)) rfl rfl ?_
    | refine RL.fin rfl ?_
    | refine W.drawn env_ok hcall (by kernel_rfl) rfl rfl rfl rfl ?_
    | refine W.block ?_
    | refine WR.next ?_
    | refine W.ret ?_
    | refine W.skip ?_
    | refine Then.ret ?_
    | refine Blk.normal ?_
    | refine Blk.ret ?_
    | refine Blk.out ?_
    | refine Blk.on rfl ?_
    | refine Then.exit ?_
    | refine W.exit ?_
    | refine Fin.ret rfl ?_
    | (refine OL.split rfl rfl rfl rfl rfl rfl (fun hb => ?_) (fun hb => ?_) <;> try contradiction)
    | (refine RL.split rfl rfl rfl rfl rfl rfl (fun hb => ?_) (fun hb => ?_) <;> try contradiction)
    | (refine W.cond rfl (fun hc => ?_) (fun hc => ?_) <;> try contradiction)
    | refine OL.quiet rfl (quiet_quo env_sym rfl rfl (by assumption)) rfl ?_
    | refine OL.quiet rfl (quiet_rem env_sym rfl rfl (by assumption)) rfl ?_
    | refine RL.quiet rfl rfl rfl rfl (quiet_quo env_sym rfl rfl (by assumption)) rfl rfl ?_
    | refine RL.quiet rfl rfl rfl rfl (quiet_rem env_sym rfl rfl (by assumption)) rfl rfl ?_)
  all_goals first
    | exact .eq rfl (.scal rfl)
    | (exfalso; simp at hb; done)
    | (exfalso; simp at hc; done)
    | (exfalso; simp only [Bool.not_eq_true', Bool.not_eq_false', decide_eq_true_eq, decide_eq_false_iff_not] at *; have := addA (xs := xs) (fr := fr) (mid := mid) (to := to) (by assumption) (by assumption); contradiction)
theorem HF_al (xs : List Ch) (a b c : Int) : ∀ x ∈ [dat 2 (xs.map cv), .int .i64 a, .int .i64 b, .int .i64 c], HF x := HF.cons (HF_chs xs) (HF.cons (HFi _ _) (HF.cons (HFi _ _) (HF.cons (HFi _ _) HF.nil)))
/-- The law, called at whatever was read: it returns true, and below the heap's old size nothing has turned. -/
theorem area_law (xs : List Ch) (fr mid to : Int) (w : World) {v : Value} (hv : VR (sig0 w) (dat 2 (xs.map cv)) v) : Calls Proofs.Tryz.prog 5 #[v, .int .i64 fr, .int .i64 mid, .int .i64 to] w fun e w' => e = .returned (.bool true) ∧ RowKit.Below w.heap.size w w' :=
  calls_flat env_gl (con_one env_ok env_gl (fn := Proofs.Tryz.f5) rfl (HF_al xs fr mid to) (areaLaw_walk xs fr mid to)) (one_self _ _) rfl w (.cons hv (.cons (.int _ _) (.cons (.int _ _) (.cons (.int _ _) .nil))))
end
end Go.T9
set_option maxRecDepth 1000000
set_option linter.unusedVariables false
namespace Go.T9
open Go Go.AM
theorem opens_ch : Opens Proofs.Tryz.prog 117 (fun acs => ∃ x : Ch, acs = (cv x).cells.toList) := by
  intro H enc w base sp held fuel cs x hx
  obtain ⟨acs, hR, hv⟩ := opens_struct Proofs.Tryz.underlying117 (by kernel_rfl) (.cons (by kernel_rfl) (opens_int Proofs.Tryz.underlying3) (.cons (by kernel_rfl) (opens_int Proofs.Tryz.underlying3) .nil)) enc w base sp held fuel cs x hx
  obtain ⟨_, _, ⟨a, rfl, _⟩, ⟨_, _, ⟨b, rfl, _⟩, rfl, rfl⟩, rfl⟩ := hR
  exact ⟨_, ⟨⟨a, b⟩, rfl⟩, hv⟩
theorem opens_chs : Opens Proofs.Tryz.prog 42 (fun acs => ∃ xs : List Ch, acs = [.func (.yield 2) ⟨xs.map cv⟩ ⟨[]⟩] ∧ xs.length ≤ maxLen) :=
  opens_slice (sz := 2) (ev := cv) Proofs.Tryz.underlying42 (by kernel_rfl) (by decide) (fun _ => rfl) opens_ch (fun _ h => h)
end Go.T9
