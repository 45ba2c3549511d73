/- A part of the proof. -/
import Derived.Test.YtplabpmicdbglaaGreatDoorR
import Derived.Test.YtplabpmicdbglaaGreatDoorC
import Derived.KernelRfl
import Derived.Test.YtplabpmicdbglaaGreatDoorF
set_option maxRecDepth 1000000
set_option linter.unusedVariables false
namespace Go.T9
open Go Go.AM
set_option maxHeartbeats 4000000
noncomputable section
theorem HFi (k : IntKind) (x : Int) : HF (.int k x) := .scal rfl
theorem HFb (b : Bool) : HF (.bool b) := .scal rfl
def tbl0 : List (FuncId × ExtF) := []
theorem tbl0_ok : CallOk env (calls tbl0) := calls_ok .nil
def dat (sz : Nat) (els : List Value) : Value := .func (.yield sz) ⟨els⟩ ⟨[]⟩
theorem inside_walk (n a b : Int) : Walk env Proofs.Tryz.f30 [.int .i64 n, .int .i64 a, .int .i64 b] (.bool (decide (a ≤ n) && decide (n ≤ b))) := by
  refine ⟨_, _, rfl, rfl, rfl, ?_⟩
  repeat' (first
    | refine OL.op rfl ?_
    | refine OL.nil ?_
    | refine Then.normal ?_
    | refine W.seq ?_
    | refine W.region env_ok tbl0_ok ?_
    | refine RL.quiet rfl rfl rfl rfl rfl rfl rfl ?_
    | refine RL.skip rfl rfl ?_
    | refine RL.read env_sym rfl rfl rfl rfl rfl rfl (by repeat' (first | exact .nil | exact .bit rfl | refine .chk ⟨_, rfl, rfl⟩ ?_)) rfl ?_
    | refine RL.alloc rfl rfl rfl rfl rfl ?_
    | refine RL.eff env_sym rfl rfl rfl rfl rfl (by repeat' (first | exact .nil | refine .bit rfl ?_ | refine .chk ⟨_, rfl, rfl⟩ ?_)) rfl rfl ?_
    | refine RL.fin rfl ?_
    | refine W.drawn env_ok tbl0_ok (by kernel_rfl) rfl rfl rfl rfl ?_
    | refine W.block ?_
    | refine WR.next ?_
    | refine W.ret ?_
    | refine W.skip ?_
    | refine Then.ret ?_
    | refine Blk.normal ?_
    | refine Blk.ret ?_
    | refine Blk.out ?_
    | refine Blk.on rfl ?_
    | refine Then.exit ?_
    | refine W.exit ?_
    | refine Fin.ret rfl ?_
    | (refine OL.split rfl rfl rfl rfl rfl rfl (fun hb => ?_) (fun hb => ?_) <;> try contradiction)
    | (refine RL.split rfl rfl rfl rfl rfl rfl (fun hb => ?_) (fun hb => ?_) <;> try contradiction)
    | (refine W.cond rfl (fun hc => ?_) (fun hc => ?_) <;> try contradiction)
    | refine OL.quiet rfl (quiet_quo env_sym rfl rfl (by assumption)) rfl ?_
    | refine OL.quiet rfl (quiet_rem env_sym rfl rfl (by assumption)) rfl ?_
    | refine RL.quiet rfl rfl rfl rfl (quiet_quo env_sym rfl rfl (by assumption)) rfl rfl ?_
    | refine RL.quiet rfl rfl rfl rfl (quiet_rem env_sym rfl rfl (by assumption)) rfl rfl ?_)
  · exact .eq (by simp [hb]) (.scal rfl)
  · exact .eq (by simp [hb]) (.scal rfl)
theorem outside_walk (n a b : Int) : Walk env Proofs.Tryz.f32 [.int .i64 n, .int .i64 a, .int .i64 b] (.bool (!(decide (a ≤ n) && decide (n ≤ b)))) := by
  refine ⟨_, _, rfl, rfl, rfl, ?_⟩
  repeat' (first
    | refine OL.op rfl ?_
    | refine OL.nil ?_
    | refine Then.normal ?_
    | refine W.seq ?_
    | refine W.region env_ok tbl0_ok ?_
    | refine RL.quiet rfl rfl rfl rfl rfl rfl rfl ?_
    | refine RL.skip rfl rfl ?_
    | refine RL.read env_sym rfl rfl rfl rfl rfl rfl (by repeat' (first | exact .nil | exact .bit rfl | refine .chk ⟨_, rfl, rfl⟩ ?_)) rfl ?_
    | refine RL.alloc rfl rfl rfl rfl rfl ?_
    | refine RL.eff env_sym rfl rfl rfl rfl rfl (by repeat' (first | exact .nil | refine .bit rfl ?_ | refine .chk ⟨_, rfl, rfl⟩ ?_)) rfl rfl ?_
    | refine RL.fin rfl ?_
    | refine W.drawn env_ok tbl0_ok (by kernel_rfl) rfl rfl rfl rfl ?_
    | refine W.block ?_
    | refine WR.next ?_
    | refine W.ret ?_
    | refine W.skip ?_
    | refine Then.ret ?_
    | refine Blk.normal ?_
    | refine Blk.ret ?_
    | refine Blk.out ?_
    | refine Blk.on rfl ?_
    | refine Then.exit ?_
    | refine W.exit ?_
    | refine Fin.ret rfl ?_
    | (refine OL.split rfl rfl rfl rfl rfl rfl (fun hb => ?_) (fun hb => ?_) <;> try contradiction)
    | (refine RL.split rfl rfl rfl rfl rfl rfl (fun hb => ?_) (fun hb => ?_) <;> try contradiction)
    | (refine W.cond rfl (fun hc => ?_) (fun hc => ?_) <;> try contradiction)
    | refine OL.quiet rfl (quiet_quo env_sym rfl rfl (by assumption)) rfl ?_
    | refine OL.quiet rfl (quiet_rem env_sym rfl rfl (by assumption)) rfl ?_
    | refine RL.quiet rfl rfl rfl rfl (quiet_quo env_sym rfl rfl (by assumption)) rfl rfl ?_
    | refine RL.quiet rfl rfl rfl rfl (quiet_rem env_sym rfl rfl (by assumption)) rfl rfl ?_)
  all_goals refine .eq (congrArg Value.bool ?_) (.scal rfl)
  all_goals simp only [decide_eq_true_eq, decide_eq_false_iff_not] at hb
  · simp; omega
  · by_cases h : b < n <;> simp [h] <;> omega
def insideX : List Value → Option Value
  | [.int .i64 n, .int .i64 a, .int .i64 b] => some (.bool (decide (a ≤ n) && decide (n ≤ b)))
  | _ => none
def outsideX : List Value → Option Value
  | [.int .i64 n, .int .i64 a, .int .i64 b] => some (.bool (!(decide (a ≤ n) && decide (n ≤ b))))
  | _ => none
theorem inside_con : Con env 30 (pureX insideX) := con_pure env_ok env_gl (fn := Proofs.Tryz.f30) rfl fun args v h => by
  unfold insideX at h
  split at h
  · simp only [Option.some.injEq] at h
    subst h
    exact ⟨HF.cons (.scal rfl) (HF.cons (.scal rfl) (HF.cons (.scal rfl) HF.nil)), inside_walk _ _ _⟩
  · cases h
theorem outside_con : Con env 32 (pureX outsideX) := con_pure env_ok env_gl (fn := Proofs.Tryz.f32) rfl fun args v h => by
  unfold outsideX at h
  split at h
  · simp only [Option.some.injEq] at h
    subst h
    exact ⟨HF.cons (.scal rfl) (HF.cons (.scal rfl) (HF.cons (.scal rfl) HF.nil)), outside_walk _ _ _⟩
  · cases h
end
end Go.T9
set_option maxRecDepth 1000000
set_option linter.unusedVariables false
set_option linter.unusedSimpArgs false
namespace Go.T9
open Go Go.AM
noncomputable section
def noEl : El := .of fun _ _ _ _ => none
def tabI : Tab := [(30, pureR (fun _ => none) insideX), (32, pureR (fun _ => none) outsideX)]
theorem tabI_ok : TabOk env tabI := .cons (con_tab inside_con) (.cons (con_tab outside_con) .nil)
def ranP : List Value → Option Value
  | [] => some (.bool true)
  | _ => none
theorem ranP_con : Con env 12 (pureX ranP) := con_calls fun args v hv => by
  unfold ranP at hv
  split at hv
  · simp only [Option.some.injEq] at hv
    subst hv
    exact ⟨rfl, rfl, ran_true⟩
  · cases hv
theorem HF_P1 (l : List Int) : HF (dat 1 (l.map (Value.int .i64))) := .dat (HF_ints _ l)
end
end Go.T9
