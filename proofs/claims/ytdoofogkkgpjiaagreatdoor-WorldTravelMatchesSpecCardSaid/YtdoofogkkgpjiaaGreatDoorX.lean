/- A part of the proof. -/
import Derived.Test.YtdoofogkkgpjiaaGreatDoorR
import Derived.KernelRfl
set_option maxRecDepth 1000000
namespace Go.T8
open Go Go.AM
noncomputable def tbl0 : List (FuncId × ExtF) := []
theorem tbl0_ok : CallOk env (calls tbl0) := calls_ok .nil
set_option maxHeartbeats 2000000
def shrU (x : Int) (n : Nat) : Int := x.fdiv (2 ^ n)
def xorU (x y : Int) : Int := IntKind.u64.wrap (BitVec.ofInt IntKind.u64.bits x ^^^ BitVec.ofInt IntKind.u64.bits y).toNat
def mulU (x y : Int) : Int := IntKind.u64.wrap (x * y)
def mixF (x : Int) : Int :=
  let x := xorU x (shrU x 30)
  let x := mulU x 13787848793156543929
  let x := xorU x (shrU x 27)
  let x := mulU x 10723151780598845931
  xorU x (shrU x 31)
theorem mixed_walk (x : Int) : Walk env Proofs.Tryz.f46 [.int .u64 x] (.int .u64 (mixF x)) := by
  refine ⟨_, _, rfl, rfl, rfl, ?_⟩
  repeat' (first
    | refine OL.op rfl ?_
    | refine OL.nil ?_
    | refine Then.normal ?_
    | refine W.seq ?_
    | refine W.region env_ok tbl0_ok ?_
    | refine RL.quiet rfl rfl rfl rfl rfl rfl rfl ?_
    | refine RL.skip rfl rfl ?_
    | refine RL.read env_sym rfl rfl rfl rfl rfl rfl (by repeat' (first | exact .nil | exact .bit rfl | refine .chk ⟨_, rfl, rfl⟩ ?_)) rfl ?_
    | refine RL.alloc rfl rfl rfl rfl rfl ?_
    | refine RL.eff env_sym rfl rfl rfl rfl rfl (by repeat' (first | exact .nil | refine .bit rfl ?_ | refine .chk ⟨_, rfl, rfl⟩ ?_)) rfl rfl ?_
    | refine RL.fin rfl ?_
    | refine W.drawn env_ok tbl0_ok (by kernel_rfl) rfl rfl rfl rfl ?_
    | refine W.block ?_
    | refine WR.next ?_
    | refine W.ret ?_
    | refine W.skip ?_
    | refine Then.ret ?_
    | refine Blk.normal ?_
    | refine Blk.ret ?_
    | refine Blk.out ?_
    | refine Blk.on rfl ?_
    | refine Then.exit ?_
    | refine W.exit ?_
    | refine Fin.ret rfl ?_
    | (refine OL.split rfl rfl rfl rfl rfl rfl (fun hb => ?_) (fun hb => ?_) <;> try contradiction)
    | (refine RL.split rfl rfl rfl rfl rfl rfl (fun hb => ?_) (fun hb => ?_) <;> try contradiction)
    | (refine W.cond rfl (fun hc => ?_) (fun hc => ?_) <;> try contradiction)
    | refine OL.quiet rfl (quiet_quo env_sym rfl rfl (by assumption)) rfl ?_
    | refine OL.quiet rfl (quiet_rem env_sym rfl rfl (by assumption)) rfl ?_
    | refine RL.quiet rfl rfl rfl rfl (quiet_quo env_sym rfl rfl (by assumption)) rfl rfl ?_
    | refine RL.quiet rfl rfl rfl rfl (quiet_rem env_sym rfl rfl (by assumption)) rfl rfl ?_)
  exact .eq rfl (.scal rfl)
def mixX : List Value → Option Value
  | [.int .u64 x] => some (.int .u64 (mixF x))
  | _ => none
theorem mixed_con : Con env 46 (pureX mixX) := con_pure env_ok env_gl (fn := Proofs.Tryz.f46) rfl fun args v h => by
  unfold mixX at h
  split at h
  · simp only [Option.some.injEq] at h
    subst h
    exact ⟨HF.cons (.scal rfl) HF.nil, mixed_walk _⟩
  · cases h
noncomputable def tblM : List (FuncId × ExtF) := [(46, pureX mixX)]
theorem tblM_ok : CallOk env (calls tblM) := calls_ok (.cons mixed_con .nil)
def stepF (x k : Int) : Int := mixF (IntKind.u64.wrap (x + IntKind.u64.wrap (11400714819323198485 * IntKind.u64.wrap (IntKind.i64.wrap (k + 1)))))
def drawF (s p w n : Int) : Int := IntKind.i64.wrap (shrU (stepF (stepF (stepF (IntKind.u64.wrap s) p) w) n) 32)
theorem draw_walk (s p w n : Int) : Walk env Proofs.Tryz.f27 [.int .i64 s, .int .i64 p, .int .i64 w, .int .i64 n] (.int .i64 (drawF s p w n)) := by
  refine ⟨_, _, rfl, rfl, rfl, ?_⟩
  repeat' (first
    | refine OL.op rfl ?_
    | refine OL.nil ?_
    | refine Then.normal ?_
    | refine W.seq ?_
    | refine W.region env_ok tblM_ok ?_
    | refine RL.quiet rfl rfl rfl rfl rfl rfl rfl ?_
    | refine RL.skip rfl rfl ?_
    | refine RL.read env_sym rfl rfl rfl rfl rfl rfl (by repeat' (first | exact .nil | exact .bit rfl | refine .chk ⟨_, rfl, rfl⟩ ?_)) rfl ?_
    | refine RL.alloc rfl rfl rfl rfl rfl ?_
    | refine RL.eff env_sym rfl rfl rfl rfl rfl (by repeat' (first | exact .nil | refine .bit rfl ?_ | refine .chk ⟨_, rfl, rfl⟩ ?_)) rfl rfl ?_
    | refine RL.fin rfl ?_
    | refine W.drawn env_ok tblM_ok (by kernel_rfl) rfl rfl rfl rfl ?_
    | refine W.block ?_
    | refine WR.next ?_
    | refine W.ret ?_
    | refine W.skip ?_
    | refine Then.ret ?_
    | refine Blk.normal ?_
    | refine Blk.ret ?_
    | refine Blk.out ?_
    | refine Blk.on rfl ?_
    | refine Then.exit ?_
    | refine W.exit ?_
    | refine Fin.ret rfl ?_
    | (refine OL.split rfl rfl rfl rfl rfl rfl (fun hb => ?_) (fun hb => ?_) <;> try contradiction)
    | (refine RL.split rfl rfl rfl rfl rfl rfl (fun hb => ?_) (fun hb => ?_) <;> try contradiction)
    | (refine W.cond rfl (fun hc => ?_) (fun hc => ?_) <;> try (first | contradiction | (exfalso; revert hc; decide)))
    | refine OL.quiet rfl (quiet_quo env_sym rfl rfl (by assumption)) rfl ?_
    | refine OL.quiet rfl (quiet_rem env_sym rfl rfl (by assumption)) rfl ?_
    | refine RL.quiet rfl rfl rfl rfl (quiet_quo env_sym rfl rfl (by assumption)) rfl rfl ?_
    | refine RL.quiet rfl rfl rfl rfl (quiet_rem env_sym rfl rfl (by assumption)) rfl rfl ?_
    | refine W.rounds 5 ?_)
  exact .eq rfl (.scal rfl)
end Go.T8
set_option maxRecDepth 1000000
namespace Go.T8
open Go Go.AM
set_option maxHeartbeats 4000000
noncomputable section
theorem HFi (k : IntKind) (x : Int) : HF (.int k x) := .scal rfl
def drawX : List Value → Option Value
  | [.int .i64 s, .int .i64 p, .int .i64 w, .int .i64 n] => some (.int .i64 (drawF s p w n))
  | _ => none
theorem draw_con : Con env 27 (pureX drawX) := con_pure env_ok env_gl (fn := Proofs.Tryz.f27) rfl fun args v h => by
  unfold drawX at h
  split at h
  · simp only [Option.some.injEq] at h
    subst h
    exact ⟨HF.cons (.scal rfl) (HF.cons (.scal rfl) (HF.cons (.scal rfl) (HF.cons (.scal rfl) HF.nil))), draw_walk _ _ _ _⟩
  · cases h
def tblD : List (FuncId × ExtF) := [(27, pureX drawX)]
theorem tblD_ok : CallOk env (calls tblD) := calls_ok (.cons draw_con .nil)
def belowF (s p w n m : Int) : Int := IntKind.i64.wrap (shrU (IntKind.u64.wrap (IntKind.u64.wrap (drawF s p w n) * IntKind.u64.wrap m)) 32)
theorem below_walk (s p w n m : Int) : Walk env Proofs.Tryz.f14 [.int .i64 s, .int .i64 p, .int .i64 w, .int .i64 n, .int .i64 m] (.int .i64 (belowF s p w n m)) := by
  refine ⟨_, _, rfl, rfl, rfl, ?_⟩
  repeat' (first
    | refine OL.op rfl ?_
    | refine OL.nil ?_
    | refine Then.normal ?_
    | refine W.seq ?_
    | refine W.region env_ok tblD_ok ?_
    | refine RL.quiet rfl rfl rfl rfl rfl rfl rfl ?_
    | refine RL.skip rfl rfl ?_
    | refine RL.read env_sym rfl rfl rfl rfl rfl rfl (by repeat' (first | exact .nil | exact .bit rfl | refine .chk ⟨_, rfl, rfl⟩ ?_)) rfl ?_
    | refine RL.alloc rfl rfl rfl rfl rfl ?_
    | refine RL.eff env_sym rfl rfl rfl rfl rfl (by repeat' (first | exact .nil | refine .bit rfl ?_ | refine .chk ⟨_, rfl, rfl⟩ ?_)) rfl rfl ?_
    | refine RL.fin rfl ?_
    | refine W.drawn env_ok tblD_ok (by kernel_rfl) rfl rfl rfl rfl ?_
    | refine W.block ?_
    | refine WR.next ?_
    | refine W.ret ?_
    | refine W.skip ?_
    | refine Then.ret ?_
    | refine Blk.normal ?_
    | refine Blk.ret ?_
    | refine Blk.out ?_
    | refine Blk.on rfl ?_
    | refine Then.exit ?_
    | refine W.exit ?_
    | refine Fin.ret rfl ?_
    | (refine OL.split rfl rfl rfl rfl rfl rfl (fun hb => ?_) (fun hb => ?_) <;> try contradiction)
    | (refine RL.split rfl rfl rfl rfl rfl rfl (fun hb => ?_) (fun hb => ?_) <;> try contradiction)
    | (refine W.cond rfl (fun hc => ?_) (fun hc => ?_) <;> try contradiction)
    | refine OL.quiet rfl (quiet_quo env_sym rfl rfl (by assumption)) rfl ?_
    | refine OL.quiet rfl (quiet_rem env_sym rfl rfl (by assumption)) rfl ?_
    | refine RL.quiet rfl rfl rfl rfl (quiet_quo env_sym rfl rfl (by assumption)) rfl rfl ?_
    | refine RL.quiet rfl rfl rfl rfl (quiet_rem env_sym rfl rfl (by assumption)) rfl rfl ?_)
  exact .eq rfl (.scal rfl)
def belowX : List Value → Option Value
  | [.int .i64 s, .int .i64 p, .int .i64 w, .int .i64 n, .int .i64 m] => some (.int .i64 (belowF s p w n m))
  | _ => none
theorem below_con : Con env 14 (pureX belowX) := con_pure env_ok env_gl (fn := Proofs.Tryz.f14) rfl fun args v h => by
  unfold belowX at h
  split at h
  · simp only [Option.some.injEq] at h
    subst h
    exact ⟨HF.cons (.scal rfl) (HF.cons (.scal rfl) (HF.cons (.scal rfl) (HF.cons (.scal rfl) (HF.cons (.scal rfl) HF.nil)))), below_walk _ _ _ _ _⟩
  · cases h
theorem outside_walk (n a b : Int) : Walk env Proofs.Tryz.f11 [.int .i64 n, .int .i64 a, .int .i64 b] (.bool (!(decide (a ≤ n) && decide (n ≤ b)))) := by
  refine ⟨_, _, rfl, rfl, rfl, ?_⟩
  repeat' (first
    | refine OL.op rfl ?_
    | refine OL.nil ?_
    | refine Then.normal ?_
    | refine W.seq ?_
    | refine W.region env_ok tbl0_ok ?_
    | refine RL.quiet rfl rfl rfl rfl rfl rfl rfl ?_
    | refine RL.skip rfl rfl ?_
    | refine RL.read env_sym rfl rfl rfl rfl rfl rfl (by repeat' (first | exact .nil | exact .bit rfl | refine .chk ⟨_, rfl, rfl⟩ ?_)) rfl ?_
    | refine RL.alloc rfl rfl rfl rfl rfl ?_
    | refine RL.eff env_sym rfl rfl rfl rfl rfl (by repeat' (first | exact .nil | refine .bit rfl ?_ | refine .chk ⟨_, rfl, rfl⟩ ?_)) rfl rfl ?_
    | refine RL.fin rfl ?_
    | refine W.drawn env_ok tbl0_ok (by kernel_rfl) rfl rfl rfl rfl ?_
    | refine W.block ?_
    | refine WR.next ?_
    | refine W.ret ?_
    | refine W.skip ?_
    | refine Then.ret ?_
    | refine Blk.normal ?_
    | refine Blk.ret ?_
    | refine Blk.out ?_
    | refine Blk.on rfl ?_
    | refine Then.exit ?_
    | refine W.exit ?_
    | refine Fin.ret rfl ?_
    | (refine OL.split rfl rfl rfl rfl rfl rfl (fun hb => ?_) (fun hb => ?_) <;> try contradiction)
    | (refine RL.split rfl rfl rfl rfl rfl rfl (fun hb => ?_) (fun hb => ?_) <;> try contradiction)
    | (refine W.cond rfl (fun hc => ?_) (fun hc => ?_) <;> try contradiction)
    | refine OL.quiet rfl (quiet_quo env_sym rfl rfl (by assumption)) rfl ?_
    | refine OL.quiet rfl (quiet_rem env_sym rfl rfl (by assumption)) rfl ?_
    | refine RL.quiet rfl rfl rfl rfl (quiet_quo env_sym rfl rfl (by assumption)) rfl rfl ?_
    | refine RL.quiet rfl rfl rfl rfl (quiet_rem env_sym rfl rfl (by assumption)) rfl rfl ?_)
  all_goals refine .eq (congrArg Value.bool ?_) (.scal rfl)
  all_goals simp only [decide_eq_true_eq, decide_eq_false_iff_not] at hb
  · simp; omega
  · by_cases h : b < n <;> simp [h] <;> omega
theorem inside_walk (n a b : Int) : Walk env Proofs.Tryz.f9 [.int .i64 n, .int .i64 a, .int .i64 b] (.bool (decide (a ≤ n) && decide (n ≤ b))) := by
  refine ⟨_, _, rfl, rfl, rfl, ?_⟩
  repeat' (first
    | refine OL.op rfl ?_
    | refine OL.nil ?_
    | refine Then.normal ?_
    | refine W.seq ?_
    | refine W.region env_ok tbl0_ok ?_
    | refine RL.quiet rfl rfl rfl rfl rfl rfl rfl ?_
    | refine RL.skip rfl rfl ?_
    | refine RL.read env_sym rfl rfl rfl rfl rfl rfl (by repeat' (first | exact .nil | exact .bit rfl | refine .chk ⟨_, rfl, rfl⟩ ?_)) rfl ?_
    | refine RL.alloc rfl rfl rfl rfl rfl ?_
    | refine RL.eff env_sym rfl rfl rfl rfl rfl (by repeat' (first | exact .nil | refine .bit rfl ?_ | refine .chk ⟨_, rfl, rfl⟩ ?_)) rfl rfl ?_
    | refine RL.fin rfl ?_
    | refine W.drawn env_ok tbl0_ok (by kernel_rfl) rfl rfl rfl rfl ?_
    | refine W.block ?_
    | refine WR.next ?_
    | refine W.ret ?_
    | refine W.skip ?_
    | refine Then.ret ?_
    | refine Blk.normal ?_
    | refine Blk.ret ?_
    | refine Blk.out ?_
    | refine Blk.on rfl ?_
    | refine Then.exit ?_
    | refine W.exit ?_
    | refine Fin.ret rfl ?_
    | (refine OL.split rfl rfl rfl rfl rfl rfl (fun hb => ?_) (fun hb => ?_) <;> try contradiction)
    | (refine RL.split rfl rfl rfl rfl rfl rfl (fun hb => ?_) (fun hb => ?_) <;> try contradiction)
    | (refine W.cond rfl (fun hc => ?_) (fun hc => ?_) <;> try contradiction)
    | refine OL.quiet rfl (quiet_quo env_sym rfl rfl (by assumption)) rfl ?_
    | refine OL.quiet rfl (quiet_rem env_sym rfl rfl (by assumption)) rfl ?_
    | refine RL.quiet rfl rfl rfl rfl (quiet_quo env_sym rfl rfl (by assumption)) rfl rfl ?_
    | refine RL.quiet rfl rfl rfl rfl (quiet_rem env_sym rfl rfl (by assumption)) rfl rfl ?_)
  · exact .eq (by simp [hb]) (.scal rfl)
  · exact .eq (by simp [hb]) (.scal rfl)
def insideX : List Value → Option Value
  | [.int .i64 n, .int .i64 a, .int .i64 b] => some (.bool (decide (a ≤ n) && decide (n ≤ b)))
  | _ => none
def outsideX : List Value → Option Value
  | [.int .i64 n, .int .i64 a, .int .i64 b] => some (.bool (!(decide (a ≤ n) && decide (n ≤ b))))
  | _ => none
theorem inside_con : Con env 9 (pureX insideX) := con_pure env_ok env_gl (fn := Proofs.Tryz.f9) rfl fun args v h => by
  unfold insideX at h
  split at h
  · simp only [Option.some.injEq] at h
    subst h
    exact ⟨HF.cons (.scal rfl) (HF.cons (.scal rfl) (HF.cons (.scal rfl) HF.nil)), inside_walk _ _ _⟩
  · cases h
theorem outside_con : Con env 11 (pureX outsideX) := con_pure env_ok env_gl (fn := Proofs.Tryz.f11) rfl fun args v h => by
  unfold outsideX at h
  split at h
  · simp only [Option.some.injEq] at h
    subst h
    exact ⟨HF.cons (.scal rfl) (HF.cons (.scal rfl) (HF.cons (.scal rfl) HF.nil)), outside_walk _ _ _⟩
  · cases h
def tbl1 : List (FuncId × ExtF) := [(9, pureX insideX), (11, pureX outsideX), (14, pureX belowX)]
theorem tbl1_ok : CallOk env (calls tbl1) := calls_ok (.cons inside_con (.cons outside_con (.cons below_con .nil)))
def link (a b c d : Int) : Value := .agg #[.int .i64 a, .int .i64 b, .int .i64 c, .int .i64 d]
def linkOk (a b c d : Int) : Bool := decide (0 ≤ a) && decide (a ≤ b) && decide (b ≤ 1000000000) && (decide (0 ≤ c) && decide (c ≤ 1000000000000)) && (decide (0 ≤ d) && decide (d ≤ 1000000))
theorem linkOk_iff (a b c d : Int) : linkOk a b c d = true ↔ 0 ≤ a ∧ a ≤ b ∧ b ≤ 1000000000 ∧ 0 ≤ c ∧ c ≤ 1000000000000 ∧ 0 ≤ d ∧ d ≤ 1000000 := by
  simp only [linkOk, Bool.and_eq_true, decide_eq_true_eq]; omega
theorem link_no {a b c d : Int} (h : ¬ (0 ≤ a ∧ a ≤ b ∧ b ≤ 1000000000 ∧ 0 ≤ c ∧ c ≤ 1000000000000 ∧ 0 ≤ d ∧ d ≤ 1000000)) : (9 : Int) = bif linkOk a b c d then 0 else 9 := by
  rw [← linkOk_iff] at h; simp only [Bool.not_eq_true] at h; rw [h]; rfl
theorem link_yes {a b c d : Int} (h : 0 ≤ a ∧ a ≤ b ∧ b ≤ 1000000000 ∧ 0 ≤ c ∧ c ≤ 1000000000000 ∧ 0 ≤ d ∧ d ≤ 1000000) : (0 : Int) = bif linkOk a b c d then 0 else 9 := by
  rw [← linkOk_iff] at h; rw [h]; rfl
theorem checkLink_walk (a b c d : Int) : Walk env Proofs.Tryz.f6 [link a b c d] (.int .i64 (bif linkOk a b c d then 0 else 9)) := by
  refine ⟨_, _, rfl, rfl, rfl, ?_⟩
  repeat' (first
    | refine OL.op rfl ?_
    | refine OL.nil ?_
    | refine Then.normal ?_
    | refine W.seq ?_
    | refine W.region env_ok tbl1_ok ?_
    | refine RL.quiet rfl rfl rfl rfl rfl rfl rfl ?_
    | refine RL.skip rfl rfl ?_
    | refine RL.read env_sym rfl rfl rfl rfl rfl rfl (by repeat' (first | exact .nil | exact .bit rfl | refine .chk ⟨_, rfl, rfl⟩ ?_)) rfl ?_
    | refine RL.alloc rfl rfl rfl rfl rfl ?_
    | refine RL.eff env_sym rfl rfl rfl rfl rfl (by repeat' (first | exact .nil | refine .bit rfl ?_ | refine .chk ⟨_, rfl, rfl⟩ ?_)) rfl rfl ?_
    | refine RL.fin rfl ?_
    | refine W.drawn env_ok tbl1_ok (by kernel_rfl) rfl rfl rfl rfl ?_
    | refine W.block ?_
    | refine WR.next ?_
    | refine W.ret ?_
    | refine W.skip ?_
    | refine Then.ret ?_
    | refine Blk.normal ?_
    | refine Blk.ret ?_
    | refine Blk.out ?_
    | refine Blk.on rfl ?_
    | refine Then.exit ?_
    | refine W.exit ?_
    | refine Fin.ret rfl ?_
    | (refine OL.split rfl rfl rfl rfl rfl rfl (fun hb => ?_) (fun hb => ?_) <;> try contradiction)
    | (refine RL.split rfl rfl rfl rfl rfl rfl (fun hb => ?_) (fun hb => ?_) <;> try contradiction)
    | (refine W.cond rfl (fun hc => ?_) (fun hc => ?_) <;> try contradiction)
    | refine OL.quiet rfl (quiet_quo env_sym rfl rfl (by assumption)) rfl ?_
    | refine OL.quiet rfl (quiet_rem env_sym rfl rfl (by assumption)) rfl ?_
    | refine RL.quiet rfl rfl rfl rfl (quiet_quo env_sym rfl rfl (by assumption)) rfl rfl ?_
    | refine RL.quiet rfl rfl rfl rfl (quiet_rem env_sym rfl rfl (by assumption)) rfl rfl ?_)
  all_goals
    simp only [decide_eq_true_eq, decide_eq_false_iff_not, Bool.not_eq_true', Bool.not_eq_false', Bool.and_eq_true, Bool.and_eq_false_iff] at *
    refine .eq (congrArg (Value.int .i64) ?_) (.scal rfl)
    first | exact link_no (by omega) | exact link_yes (by omega)
theorem checkLinkR_walk (a b c d : Int) : Walk env Proofs.Tryz.f7 [link a b c d] (.int .i64 (bif linkOk a b c d then 0 else 9)) := by
  refine ⟨_, _, rfl, rfl, rfl, ?_⟩
  repeat' (first
    | refine OL.op rfl ?_
    | refine OL.nil ?_
    | refine Then.normal ?_
    | refine W.seq ?_
    | refine W.region env_ok tbl1_ok ?_
    | refine RL.quiet rfl rfl rfl rfl rfl rfl rfl ?_
    | refine RL.skip rfl rfl ?_
    | refine RL.read env_sym rfl rfl rfl rfl rfl rfl (by repeat' (first | exact .nil | exact .bit rfl | refine .chk ⟨_, rfl, rfl⟩ ?_)) rfl ?_
    | refine RL.alloc rfl rfl rfl rfl rfl ?_
    | refine RL.eff env_sym rfl rfl rfl rfl rfl (by repeat' (first | exact .nil | refine .bit rfl ?_ | refine .chk ⟨_, rfl, rfl⟩ ?_)) rfl rfl ?_
    | refine RL.fin rfl ?_
    | refine W.drawn env_ok tbl1_ok (by kernel_rfl) rfl rfl rfl rfl ?_
    | refine W.block ?_
    | refine WR.next ?_
    | refine W.ret ?_
    | refine W.skip ?_
    | refine Then.ret ?_
    | refine Blk.normal ?_
    | refine Blk.ret ?_
    | refine Blk.out ?_
    | refine Blk.on rfl ?_
    | refine Then.exit ?_
    | refine W.exit ?_
    | refine Fin.ret rfl ?_
    | (refine OL.split rfl rfl rfl rfl rfl rfl (fun hb => ?_) (fun hb => ?_) <;> try contradiction)
    | (refine RL.split rfl rfl rfl rfl rfl rfl (fun hb => ?_) (fun hb => ?_) <;> try contradiction)
    | (refine W.cond rfl (fun hc => ?_) (fun hc => ?_) <;> try contradiction)
    | refine OL.quiet rfl (quiet_quo env_sym rfl rfl (by assumption)) rfl ?_
    | refine OL.quiet rfl (quiet_rem env_sym rfl rfl (by assumption)) rfl ?_
    | refine RL.quiet rfl rfl rfl rfl (quiet_quo env_sym rfl rfl (by assumption)) rfl rfl ?_
    | refine RL.quiet rfl rfl rfl rfl (quiet_rem env_sym rfl rfl (by assumption)) rfl rfl ?_)
  all_goals
    simp only [decide_eq_true_eq, decide_eq_false_iff_not, Bool.not_eq_true', Bool.not_eq_false', Bool.and_eq_true, Bool.and_eq_false_iff] at *
    refine .eq (congrArg (Value.int .i64) ?_) (.scal rfl)
    first | exact link_no (by omega) | exact link_yes (by omega)
def linkX : List Value → Option Value
  | [.agg ⟨[.int .i64 a, .int .i64 b, .int .i64 c, .int .i64 d]⟩] => some (.int .i64 (bif linkOk a b c d then 0 else 9))
  | _ => none
end
end Go.T8
set_option maxRecDepth 1000000
namespace Go.T8
open Go Go.AM
set_option maxHeartbeats 4000000
noncomputable section
/-! ### Numbers -/
theorem u64_in {x : Int} (h0 : 0 ≤ x) (h1 : x < 18446744073709551616) : IntKind.u64.wrap x = x := by
  have e1 : (2 : Int) ^ 64 = 18446744073709551616 := by decide
  simp only [IntKind.wrap, IntKind.bits, IntKind.signed, Bool.false_and, e1]
  simp
  omega
theorem i64_in {x : Int} (h0 : -9223372036854775808 ≤ x) (h1 : x < 9223372036854775808) : IntKind.i64.wrap x = x := by
  have e1 : (2 : Int) ^ 64 = 18446744073709551616 := by decide
  have e2 : (2 : Int) ^ (64 - 1) = 9223372036854775808 := by decide
  simp only [IntKind.wrap, IntKind.bits, IntKind.signed, Bool.true_and, decide_eq_true_eq, e1, e2]
  split <;> omega
theorem i64_add (x y : Int) : IntKind.i64.wrap (IntKind.i64.wrap x + y) = IntKind.i64.wrap (x + y) := by
  have e1 : (2 : Int) ^ 64 = 18446744073709551616 := by decide
  have e2 : (2 : Int) ^ (64 - 1) = 9223372036854775808 := by decide
  simp only [IntKind.wrap, IntKind.bits, IntKind.signed, Bool.true_and, decide_eq_true_eq, e1, e2]
  split <;> split <;> split <;> omega
theorem fdiv_pow {x : Int} (h : 0 ≤ x) (n : Nat) : x.fdiv (2 ^ n) = x / 2 ^ n := Int.fdiv_eq_ediv_of_nonneg _ (Int.pow_nonneg (by decide))
theorem and_mask {x : Int} (h0 : 0 ≤ x) (h1 : x < 18446744073709551616) : IntKind.u64.wrap (BitVec.ofInt IntKind.u64.bits x &&& BitVec.ofInt IntKind.u64.bits 4294967295).toNat = x % 4294967296 := by
  obtain ⟨k, rfl⟩ := Int.eq_ofNat_of_zero_le h0
  have e : (BitVec.ofInt IntKind.u64.bits (k : Int) &&& BitVec.ofInt IntKind.u64.bits 4294967295).toNat = k % 4294967296 := by
    have hm : (BitVec.ofInt IntKind.u64.bits 4294967295).toNat = 2 ^ 32 - 1 := by decide
    rw [BitVec.toNat_and, hm, Nat.and_two_pow_sub_one_eq_mod, BitVec.toNat_ofInt]
    have : ((k : Int) % ((2 ^ IntKind.u64.bits : Nat) : Int)).toNat = k := by
      have : ((2 ^ IntKind.u64.bits : Nat) : Int) = 18446744073709551616 := by decide
      rw [this]; omega
    rw [this]
  rw [e, u64_in (by omega) (by omega)]
  omega
end
end Go.T8
set_option maxRecDepth 1000000
set_option linter.unusedVariables false
namespace Go.T8
open Go Go.AM
set_option maxHeartbeats 4000000
noncomputable section
theorem bits64 : IntKind.u64.bits = 64 := rfl
theorem mul_walk (x : Int) (h0 : 0 ≤ x) (h1 : x ≤ 10000000) : Walk env Proofs.Tryz.f15 [.int .u64 x, .int .u64 1000000] (.tuple #[.int .u64 0, .int .u64 (x * 1000000)]) := by
  refine ⟨_, _, rfl, rfl, rfl, ?_⟩
  repeat' (first
    | refine OL.op rfl ?_
    | refine OL.nil ?_
    | refine Then.normal ?_
    | refine W.seq ?_
    | refine W.region env_ok tbl0_ok ?_
    | refine RL.quiet rfl rfl rfl rfl rfl rfl rfl ?_
    | refine RL.skip rfl rfl ?_
    | refine RL.read env_sym rfl rfl rfl rfl rfl rfl (by repeat' (first | exact .nil | exact .bit rfl | refine .chk ⟨_, rfl, rfl⟩ ?_)) rfl ?_
    | refine RL.alloc rfl rfl rfl rfl rfl ?_
    | refine RL.eff env_sym rfl rfl rfl rfl rfl (by repeat' (first | exact .nil | refine .bit rfl ?_ | refine .chk ⟨_, rfl, rfl⟩ ?_)) rfl rfl ?_
    | refine RL.fin rfl ?_
    | refine W.drawn env_ok tbl0_ok (by kernel_rfl) rfl rfl rfl rfl ?_
    | refine W.block ?_
    | refine WR.next ?_
    | refine W.ret ?_
    | refine W.skip ?_
    | refine Then.ret ?_
    | refine Blk.normal ?_
    | refine Blk.ret ?_
    | refine Blk.out ?_
    | refine Blk.on rfl ?_
    | refine Then.exit ?_
    | refine W.exit ?_
    | refine Fin.ret rfl ?_
    | (refine OL.split rfl rfl rfl rfl rfl rfl (fun hb => ?_) (fun hb => ?_) <;> try contradiction)
    | (refine RL.split rfl rfl rfl rfl rfl rfl (fun hb => ?_) (fun hb => ?_) <;> try contradiction)
    | (refine W.cond rfl (fun hc => ?_) (fun hc => ?_) <;> try contradiction)
    | refine OL.quiet rfl (quiet_quo env_sym rfl rfl (by assumption)) rfl ?_
    | refine OL.quiet rfl (quiet_rem env_sym rfl rfl (by assumption)) rfl ?_
    | refine RL.quiet rfl rfl rfl rfl (quiet_quo env_sym rfl rfl (by assumption)) rfl rfl ?_
    | refine RL.quiet rfl rfl rfl rfl (quiet_rem env_sym rfl rfl (by assumption)) rfl rfl ?_)
  have m1 : IntKind.u64.wrap (BitVec.ofInt IntKind.u64.bits x &&& BitVec.ofInt IntKind.u64.bits 4294967295).toNat = x := by rw [and_mask h0 (by omega)]; omega
  have m2 : IntKind.u64.wrap (BitVec.ofInt IntKind.u64.bits 1000000 &&& BitVec.ofInt IntKind.u64.bits 4294967295).toNat = 1000000 := by decide
  have p32 : (2 : Int) ^ min (Int.toNat 32) IntKind.u64.bits = 4294967296 := by decide
  have d1 : x.fdiv 4294967296 = 0 := by rw [Int.fdiv_eq_ediv_of_nonneg _ (by decide)]; omega
  have d2 : Int.fdiv 1000000 4294967296 = 0 := by decide
  have w0 : IntKind.u64.wrap 0 = 0 := by decide
  have w1 : IntKind.u64.wrap (x * 1000000) = x * 1000000 := u64_in (by omega) (by omega)
  have d3 : (x * 1000000).fdiv 4294967296 = x * 1000000 / 4294967296 := Int.fdiv_eq_ediv_of_nonneg _ (by decide)
  have w2 : IntKind.u64.wrap (x * 1000000 / 4294967296) = x * 1000000 / 4294967296 := u64_in (by omega) (by omega)
  have d4 : (x * 1000000 / 4294967296).fdiv 4294967296 = 0 := by rw [Int.fdiv_eq_ediv_of_nonneg _ (by decide)]; omega
  have m3 : IntKind.u64.wrap (BitVec.ofInt IntKind.u64.bits (x * 1000000 / 4294967296) &&& BitVec.ofInt IntKind.u64.bits 4294967295).toNat = x * 1000000 / 4294967296 := by rw [and_mask (by omega) (by omega)]; omega
  refine .eq ?_ (.tuple (HF.cons (.scal rfl) (HF.cons (.scal rfl) HF.nil)))
  simp only [m1, m2, p32, d1, d2, Int.zero_mul, Int.mul_zero, Int.zero_add, Int.add_zero, w0, w1, d3, w2, d4, m3]
theorem div_walk (x y : Int) (h0 : 0 ≤ x) (h1 : x < 18446744073709551616) (hy : 0 < y) : Walk env Proofs.Tryz.f16 [.int .u64 0, .int .u64 x, .int .u64 y] (.tuple #[.int .u64 (x / y), .int .u64 (x % y)]) := by
  refine ⟨_, _, rfl, rfl, rfl, ?_⟩
  have hy0 : decide (y = 0) = false := by simp; omega
  have hy1 : decide (y ≤ 0) = false := by simp; omega
  repeat' (first
    | refine OL.op rfl ?_
    | refine OL.nil ?_
    | refine Then.normal ?_
    | refine W.seq ?_
    | refine W.region env_ok tbl0_ok ?_
    | refine RL.quiet rfl rfl rfl rfl rfl rfl rfl ?_
    | refine RL.skip rfl rfl ?_
    | refine RL.read env_sym rfl rfl rfl rfl rfl rfl (by repeat' (first | exact .nil | exact .bit rfl | refine .chk ⟨_, rfl, rfl⟩ ?_)) rfl ?_
    | refine RL.alloc rfl rfl rfl rfl rfl ?_
    | refine RL.eff env_sym rfl rfl rfl rfl rfl (by repeat' (first | exact .nil | refine .bit rfl ?_ | refine .chk ⟨_, rfl, rfl⟩ ?_)) rfl rfl ?_
    | refine RL.fin rfl ?_
    | refine W.drawn env_ok tbl0_ok (by kernel_rfl) rfl rfl rfl rfl ?_
    | refine W.block ?_
    | refine WR.next ?_
    | refine W.ret ?_
    | refine W.skip ?_
    | refine Then.ret ?_
    | refine Blk.normal ?_
    | refine Blk.ret ?_
    | refine Blk.out ?_
    | refine Blk.on rfl ?_
    | refine Then.exit ?_
    | refine W.exit ?_
    | refine Fin.ret rfl ?_
    | (refine OL.split rfl rfl rfl rfl rfl rfl (fun hb => ?_) (fun hb => ?_) <;> try contradiction)
    | (refine RL.split rfl rfl rfl rfl rfl rfl (fun hb => ?_) (fun hb => ?_) <;> try contradiction)
    | (refine W.cond rfl (fun hc => ?_) (fun hc => ?_) <;> try (first | contradiction | exact absurd hc (by simp only [*]; decide)))
    | refine OL.quiet rfl (quiet_quo env_sym rfl rfl (by assumption)) rfl ?_
    | refine OL.quiet rfl (quiet_rem env_sym rfl rfl (by assumption)) rfl ?_
    | refine RL.quiet rfl rfl rfl rfl (quiet_quo env_sym rfl rfl (by assumption)) rfl rfl ?_
    | refine RL.quiet rfl rfl rfl rfl (quiet_rem env_sym rfl rfl (by assumption)) rfl rfl ?_)
  refine .eq ?_ (.tuple (HF.cons (.scal rfl) (HF.cons (.scal rfl) HF.nil)))
  rw [Int.tdiv_eq_ediv_of_nonneg h0, Int.tmod_eq_emod_of_nonneg h0, u64_in (Int.ediv_nonneg h0 (by omega)) (by have := Int.ediv_le_self y h0; omega)]
def mulX : List Value → Option Value
  | [.int .u64 x, .int .u64 y] => bif decide (0 ≤ x) && (decide (x ≤ 10000000) && decide (y = 1000000)) then some (.tuple #[.int .u64 0, .int .u64 (x * 1000000)]) else none
  | _ => none
def divX : List Value → Option Value
  | [.int .u64 h, .int .u64 x, .int .u64 y] => bif (decide (h = 0) && decide (0 ≤ x)) && (decide (x < 18446744073709551616) && decide (0 < y)) then some (.tuple #[.int .u64 (x / y), .int .u64 (x % y)]) else none
  | _ => none
theorem mul_con : Con env 15 (pureX mulX) := con_pure env_ok env_gl (fn := Proofs.Tryz.f15) rfl fun args v h => by
  unfold mulX at h
  split at h
  · simp only [cond_eq_ite, Bool.and_eq_true, decide_eq_true_eq] at h
    split at h
    · rename_i hh
      simp only [Option.some.injEq] at h
      subst h
      obtain ⟨h1, h2, rfl⟩ := hh
      exact ⟨HF.cons (.scal rfl) (HF.cons (.scal rfl) HF.nil), mul_walk _ h1 h2⟩
    · cases h
  · cases h
theorem div_con : Con env 16 (pureX divX) := con_pure env_ok env_gl (fn := Proofs.Tryz.f16) rfl fun args v h => by
  unfold divX at h
  split at h
  · simp only [cond_eq_ite, Bool.and_eq_true, decide_eq_true_eq] at h
    split at h
    · rename_i hh
      simp only [Option.some.injEq] at h
      subst h
      obtain ⟨⟨rfl, h1⟩, h2, h3⟩ := hh
      exact ⟨HF.cons (.scal rfl) (HF.cons (.scal rfl) (HF.cons (.scal rfl) HF.nil)), div_walk _ _ h1 h2 h3⟩
    · cases h
  · cases h
end
end Go.T8
set_option maxRecDepth 1000000
set_option linter.unusedVariables false
namespace Go.T8
open Go Go.AM
set_option maxHeartbeats 4000000
noncomputable section
theorem mul_app {x : Int} (h0 : 0 ≤ x) (h1 : x ≤ 10000000) : mulX [.int .u64 (IntKind.u64.wrap x), .int .u64 1000000] = some (.tuple #[.int .u64 0, .int .u64 (x * 1000000)]) := by
  rw [u64_in h0 (by omega)]
  simp [mulX, h0, h1]
theorem div_app {x y : Int} (h0 : 0 ≤ x) (h1 : x ≤ 10000000) (hy0 : decide (0 < y) = true) (hy1 : y ≤ 1000000000000) : divX [.int .u64 0, .int .u64 (x * 1000000), .int .u64 (IntKind.u64.wrap y)] = some (.tuple #[.int .u64 (x * 1000000 / y), .int .u64 (x * 1000000 % y)]) := by
  have hy0 : 0 < y := by simpa using hy0
  rw [u64_in (Int.le_of_lt hy0) (by omega)]
  have a1 : 0 ≤ x * 1000000 := by omega
  have a2 : x * 1000000 < 18446744073709551616 := by omega
  simp [divX, a1, a2, hy0]
def tbl2 : List (FuncId × ExtF) := [(14, pureX belowX), (15, pureX mulX), (16, pureX divX)]
theorem tbl2_ok : CallOk env (calls tbl2) := calls_ok (.cons below_con (.cons mul_con (.cons div_con .nil)))
def ceilF (x y : Int) : Int := (x * 1000000 + y - 1) / y
def lostF (d seed who n : Int) : Bool := decide (belowF seed 5 who n 1000000 < d)
def tookF (a b c size seed who n : Int) : Int :=
  let t := IntKind.i64.wrap (a + belowF seed 5 who (IntKind.i64.wrap (n + 1)) (IntKind.i64.wrap (IntKind.i64.wrap (b - a) + 1)))
  bif decide (0 < c) then IntKind.i64.wrap (t + ceilF size c) else t
def travelF (a b c d size seed who n : Int) : Value :=
  bif lostF d seed who n then .tuple #[.int .i64 0, .bool true] else .tuple #[.int .i64 (tookF a b c size seed who n), .bool false]
theorem q_in {x c : Int} (h0 : 0 ≤ x) (h1 : x ≤ 10000000) (hc : 0 < c) : IntKind.i64.wrap (x * 1000000 / c) = x * 1000000 / c := by
  have a := Int.ediv_nonneg (a := x * 1000000) (b := c) (by omega) (by omega)
  have b := Int.ediv_le_self (a := x * 1000000) c (by omega)
  exact i64_in (by omega) (by omega)
theorem ceil_pos {x c : Int} (hc : 0 < c) (h : 0 < x * 1000000 % c) : ceilF x c = x * 1000000 / c + 1 := by
  unfold ceilF
  generalize x * 1000000 = s at *
  have e := Int.mul_ediv_add_emod s c
  have l := Int.emod_lt_of_pos s hc
  have : s + c - 1 = (s % c - 1) + c * (s / c + 1) := by rw [Int.mul_add]; omega
  rw [this, Int.add_mul_ediv_left _ _ (by omega), Int.ediv_eq_zero_of_lt (by omega) (by omega)]
  omega
theorem ceil_zero {x c : Int} (hc : 0 < c) (h : ¬ 0 < x * 1000000 % c) : ceilF x c = x * 1000000 / c := by
  unfold ceilF
  generalize x * 1000000 = s at *
  have e := Int.mul_ediv_add_emod s c
  have l := Int.emod_nonneg s (by omega : c ≠ 0)
  have : s + c - 1 = (c - 1) + c * (s / c) := by omega
  rw [this, Int.add_mul_ediv_left _ _ (by omega), Int.ediv_eq_zero_of_lt (by omega) (by omega)]
  omega
theorem pos_ne {c : Int} (h : decide (0 < c) = true) : decide (c = 0) = false := by simp at h ⊢; omega
theorem ref_ceil {x c : Int} (h0 : 0 ≤ x) (h1 : x ≤ 10000000) (hc : 0 < c) (h2 : c ≤ 1000000000000) :
    IntKind.i64.wrap (Int.tdiv (IntKind.i64.wrap (IntKind.i64.wrap (IntKind.i64.wrap (x * 1000000) + c) - 1)) c) = ceilF x c := by
  rw [i64_in (x := x * 1000000) (by omega) (by omega), i64_in (x := x * 1000000 + c) (by omega) (by omega), i64_in (x := x * 1000000 + c - 1) (by omega) (by omega), Int.tdiv_eq_ediv_of_nonneg (by omega)]
  have a := Int.ediv_nonneg (a := x * 1000000 + c - 1) (b := c) (by omega) (by omega)
  have b := Int.ediv_le_self (a := x * 1000000 + c - 1) c (by omega)
  exact i64_in (by omega) (by omega)
theorem travel_walk (a b c d size seed who n : Int) (h0 : 0 ≤ size) (h1 : size ≤ 10000000) (h2 : c ≤ 1000000000000) : Walk env Proofs.Tryz.f10 [link a b c d, .int .i64 size, .int .i64 seed, .int .i64 who, .int .i64 n] (travelF a b c d size seed who n) := by
  refine ⟨_, _, rfl, rfl, rfl, ?_⟩
  repeat' (first
    | refine OL.op rfl ?_
    | refine OL.nil ?_
    | refine Then.normal ?_
    | refine W.seq ?_
    | refine W.region env_ok tbl2_ok ?_
    | refine RL.quiet rfl rfl rfl rfl rfl rfl rfl ?_
    | refine RL.skip rfl rfl ?_
    | refine RL.read env_sym rfl rfl rfl rfl rfl rfl (by repeat' (first | exact .nil | exact .bit rfl | refine .chk ⟨_, rfl, rfl⟩ ?_)) rfl ?_
    | refine RL.alloc rfl rfl rfl rfl rfl ?_
    | refine RL.eff env_sym rfl rfl rfl rfl rfl (by repeat' (first | exact .nil | refine .bit rfl ?_ | refine .chk ⟨_, rfl, rfl⟩ ?_)) rfl rfl ?_
    | refine RL.fin rfl ?_
    | refine W.drawn env_ok tbl2_ok (by kernel_rfl) rfl rfl rfl rfl ?_
    | refine W.block ?_
    | refine WR.next ?_
    | refine W.ret ?_
    | refine W.skip ?_
    | refine Then.ret ?_
    | refine Blk.normal ?_
    | refine Blk.ret ?_
    | refine Blk.out ?_
    | refine Blk.on rfl ?_
    | refine Then.exit ?_
    | refine W.exit ?_
    | refine Fin.ret rfl ?_
    | (refine OL.split rfl rfl rfl rfl rfl rfl (fun hb => ?_) (fun hb => ?_) <;> try contradiction)
    | (refine RL.split rfl rfl rfl rfl rfl rfl (fun hb => ?_) (fun hb => ?_) <;> try contradiction)
    | (refine W.cond rfl (fun hc => ?_) (fun hc => ?_) <;> try contradiction)
    | refine OL.quiet rfl (quiet_quo env_sym rfl rfl (by assumption)) rfl ?_
    | refine OL.quiet rfl (quiet_rem env_sym rfl rfl (by assumption)) rfl ?_
    | refine RL.quiet rfl rfl rfl rfl (quiet_quo env_sym rfl rfl (by assumption)) rfl rfl ?_
    | refine RL.quiet rfl rfl rfl rfl (quiet_rem env_sym rfl rfl (by assumption)) rfl rfl ?_
    | refine OL.eff rfl rfl rfl (eff_call rfl rfl rfl rfl (mul_app (by assumption) (by assumption))) rfl ?_
    | refine OL.eff rfl rfl rfl (eff_call rfl rfl rfl rfl (div_app (by assumption) (by assumption) (by assumption) (by assumption))) rfl ?_)
  · exact .eq (by simp [travelF, lostF, hc]) (.tuple (HF.cons (.scal rfl) (HF.cons (.scal rfl) HF.nil)))
  · rename_i hl hr
    simp only [decide_eq_true_eq] at hr hc
    refine .eq ?_ (.tuple (HF.cons (.scal rfl) (HF.cons (.scal rfl) HF.nil)))
    rw [q_in h0 h1 hr, i64_add, Int.add_assoc, ← ceil_pos hr hc]
    simp [travelF, lostF, hl, tookF, hr]
  · rename_i hl hr
    simp only [decide_eq_true_eq, decide_eq_false_iff_not] at hr hc
    refine .eq ?_ (.tuple (HF.cons (.scal rfl) (HF.cons (.scal rfl) HF.nil)))
    rw [q_in h0 h1 hr, ← ceil_zero hr hc]
    simp [travelF, lostF, hl, tookF, hr]
  · rename_i hl
    refine .eq ?_ (.tuple (HF.cons (.scal rfl) (HF.cons (.scal rfl) HF.nil)))
    simp only [decide_eq_false_iff_not] at hc
    simp [travelF, lostF, hl, tookF, hc]
theorem travelR_walk (a b c d size seed who n : Int) (h0 : 0 ≤ size) (h1 : size ≤ 10000000) (h2 : c ≤ 1000000000000) : Walk env Proofs.Tryz.f12 [link a b c d, .int .i64 size, .int .i64 seed, .int .i64 who, .int .i64 n] (travelF a b c d size seed who n) := by
  refine ⟨_, _, rfl, rfl, rfl, ?_⟩
  repeat' (first
    | refine OL.op rfl ?_
    | refine OL.nil ?_
    | refine Then.normal ?_
    | refine W.seq ?_
    | refine W.region env_ok tbl2_ok ?_
    | refine RL.quiet rfl rfl rfl rfl rfl rfl rfl ?_
    | refine RL.skip rfl rfl ?_
    | refine RL.read env_sym rfl rfl rfl rfl rfl rfl (by repeat' (first | exact .nil | exact .bit rfl | refine .chk ⟨_, rfl, rfl⟩ ?_)) rfl ?_
    | refine RL.alloc rfl rfl rfl rfl rfl ?_
    | refine RL.eff env_sym rfl rfl rfl rfl rfl (by repeat' (first | exact .nil | refine .bit rfl ?_ | refine .chk ⟨_, rfl, rfl⟩ ?_)) rfl rfl ?_
    | refine RL.fin rfl ?_
    | refine W.drawn env_ok tbl2_ok (by kernel_rfl) rfl rfl rfl rfl ?_
    | refine W.block ?_
    | refine WR.next ?_
    | refine W.ret ?_
    | refine W.skip ?_
    | refine Then.ret ?_
    | refine Blk.normal ?_
    | refine Blk.ret ?_
    | refine Blk.out ?_
    | refine Blk.on rfl ?_
    | refine Then.exit ?_
    | refine W.exit ?_
    | refine Fin.ret rfl ?_
    | (refine OL.split rfl rfl rfl rfl rfl rfl (fun hb => ?_) (fun hb => ?_) <;> try contradiction)
    | (refine RL.split rfl rfl rfl rfl rfl rfl (fun hb => ?_) (fun hb => ?_) <;> try contradiction)
    | (refine W.cond rfl (fun hc => ?_) (fun hc => ?_) <;> try contradiction)
    | refine OL.quiet rfl (quiet_quo env_sym rfl rfl (by assumption)) rfl ?_
    | refine OL.quiet rfl (quiet_rem env_sym rfl rfl (by assumption)) rfl ?_
    | refine RL.quiet rfl rfl rfl rfl (quiet_quo env_sym rfl rfl (by assumption)) rfl rfl ?_
    | refine RL.quiet rfl rfl rfl rfl (quiet_rem env_sym rfl rfl (by assumption)) rfl rfl ?_
    | refine OL.quiet rfl (quiet_quo env_sym rfl rfl (pos_ne (by assumption))) rfl ?_)
  · exact .eq (by simp [travelF, lostF, hc]) (.tuple (HF.cons (.scal rfl) (HF.cons (.scal rfl) HF.nil)))
  · rename_i hl
    simp only [decide_eq_true_eq] at hc
    refine .eq ?_ (.tuple (HF.cons (.scal rfl) (HF.cons (.scal rfl) HF.nil)))
    rw [ref_ceil h0 h1 hc h2]
    simp [travelF, lostF, hl, tookF, hc]
  · rename_i hl
    refine .eq ?_ (.tuple (HF.cons (.scal rfl) (HF.cons (.scal rfl) HF.nil)))
    simp only [decide_eq_false_iff_not] at hc
    simp [travelF, lostF, hl, tookF, hc]
end
end Go.T8
set_option maxRecDepth 1000000
set_option linter.unusedVariables false
namespace Go.T8
open Go Go.AM
set_option maxHeartbeats 4000000
noncomputable section
theorem HF_link (a b c d : Int) : HF (link a b c d) := .agg (HF.cons (.scal rfl) (HF.cons (.scal rfl) (HF.cons (.scal rfl) (HF.cons (.scal rfl) HF.nil))))
theorem HF_tail (a b c d : Int) : ∀ x ∈ [Value.int .i64 a, .int .i64 b, .int .i64 c, .int .i64 d], HF x := HF.cons (.scal rfl) (HF.cons (.scal rfl) (HF.cons (.scal rfl) (HF.cons (.scal rfl) HF.nil)))
theorem link_con : Con env 6 (pureX linkX) := con_pure env_ok env_gl (fn := Proofs.Tryz.f6) rfl fun args v h => by
  unfold linkX at h
  split at h
  · simp only [Option.some.injEq] at h
    subst h
    exact ⟨HF.cons (HF_link _ _ _ _) HF.nil, checkLink_walk _ _ _ _⟩
  · cases h
theorem linkR_con : Con env 7 (pureX linkX) := con_pure env_ok env_gl (fn := Proofs.Tryz.f7) rfl fun args v h => by
  unfold linkX at h
  split at h
  · simp only [Option.some.injEq] at h
    subst h
    exact ⟨HF.cons (HF_link _ _ _ _) HF.nil, checkLinkR_walk _ _ _ _⟩
  · cases h
def travelX : List Value → Option Value
  | [.agg ⟨[.int .i64 a, .int .i64 b, .int .i64 c, .int .i64 d]⟩, .int .i64 size, .int .i64 seed, .int .i64 who, .int .i64 n] => bif decide (0 ≤ size) && (decide (size ≤ 10000000) && decide (c ≤ 1000000000000)) then some (travelF a b c d size seed who n) else none
  | _ => none
theorem travel_con : Con env 10 (pureX travelX) := con_pure env_ok env_gl (fn := Proofs.Tryz.f10) rfl fun args v h => by
  unfold travelX at h
  split at h
  · simp only [cond_eq_ite, Bool.and_eq_true, decide_eq_true_eq] at h
    split at h
    · rename_i hh
      simp only [Option.some.injEq] at h
      subst h
      exact ⟨HF.cons (HF_link _ _ _ _) (HF_tail _ _ _ _), travel_walk _ _ _ _ _ _ _ _ hh.1 hh.2.1 hh.2.2⟩
    · cases h
  · cases h
theorem travelR_con : Con env 12 (pureX travelX) := con_pure env_ok env_gl (fn := Proofs.Tryz.f12) rfl fun args v h => by
  unfold travelX at h
  split at h
  · simp only [cond_eq_ite, Bool.and_eq_true, decide_eq_true_eq] at h
    split at h
    · rename_i hh
      simp only [Option.some.injEq] at h
      subst h
      exact ⟨HF.cons (HF_link _ _ _ _) (HF_tail _ _ _ _), travelR_walk _ _ _ _ _ _ _ _ hh.1 hh.2.1 hh.2.2⟩
    · cases h
  · cases h
def sizesOk (size who n : Int) : Bool := (decide (0 ≤ size) && decide (size ≤ 10000000)) && ((decide (0 ≤ who) && decide (who ≤ 1000000000000)) && (decide (0 ≤ n) && decide (n ≤ 1000000000000)))
def three (v : Value) : Value := match v with | .tuple ⟨[x, y]⟩ => .tuple ⟨[x, y, .int .i64 0]⟩ | v => v
def okF (a b c d size who n : Int) : Bool := linkOk a b c d && sizesOk size who n
def wholeT (a b c d size seed who n : Int) : Int := bif okF a b c d size who n then (bif lostF d seed who n then 0 else tookF a b c size seed who n) else 0
def wholeL (a b c d size seed who n : Int) : Bool := bif okF a b c d size who n then lostF d seed who n else false
def wholeE (a b c d size who n : Int) : Int := bif okF a b c d size who n then 0 else 9
def wholeF (a b c d size seed who n : Int) : Value := .tuple ⟨[.int .i64 (wholeT a b c d size seed who n), .bool (wholeL a b c d size seed who n), .int .i64 (wholeE a b c d size who n)]⟩
theorem travel_app {a b c d size seed who n : Int} (hl : linkOk a b c d = true) (h0 : (decide (0 ≤ size) && decide (size ≤ 10000000)) = true) : travelX [link a b c d, .int .i64 size, .int .i64 seed, .int .i64 who, .int .i64 n] = some (.tuple ⟨[.int .i64 (bif lostF d seed who n then 0 else tookF a b c size seed who n), .bool (lostF d seed who n)]⟩) := by
  rw [linkOk_iff] at hl
  simp only [Bool.and_eq_true, decide_eq_true_eq] at h0
  have h2 : c ≤ 1000000000000 := by omega
  simp only [travelX, link, h0.1, h0.2, h2, decide_true, Bool.and_self, cond_true, Option.some.injEq, travelF]
  cases lostF d seed who n <;> rfl
def tbl3 : List (FuncId × ExtF) := [(6, pureX linkX), (7, pureX linkX), (9, pureX insideX), (10, pureX travelX), (11, pureX outsideX), (12, pureX travelX)]
theorem tbl3_ok : CallOk env (calls tbl3) := calls_ok (.cons link_con (.cons linkR_con (.cons inside_con (.cons travel_con (.cons outside_con (.cons travelR_con .nil))))))
theorem err_ne {b : Bool} : (!decide ((bif b then (0 : Int) else 9) = 0)) = !b := by cases b <;> rfl
theorem HF3 (x : Int) (y : Bool) (z : Int) : HF (.tuple ⟨[.int .i64 x, .bool y, .int .i64 z]⟩) := .tuple (HF.cons (.scal rfl) (HF.cons (.scal rfl) (HF.cons (.scal rfl) HF.nil)))
theorem not_not_true {b : Bool} (h : (!b) = false) : b = true := by cases b <;> simp_all
theorem sizes_false {size who n : Int} (h : (!(decide (0 ≤ size) && decide (size ≤ 10000000))) = true ∨ (!(decide (0 ≤ who) && decide (who ≤ 1000000000000))) = true ∨ (!(decide (0 ≤ n) && decide (n ≤ 1000000000000))) = true) : sizesOk size who n = false := by
  unfold sizesOk
  rcases h with h | h | h <;> simp only [Bool.not_eq_true'] at h <;> rw [h] <;> simp
theorem sizes_true {size who n : Int} (h : (!(decide (0 ≤ size) && decide (size ≤ 10000000))) = false) (h2 : (!(decide (0 ≤ who) && decide (who ≤ 1000000000000))) = false) (h3 : (!(decide (0 ≤ n) && decide (n ≤ 1000000000000))) = false) : sizesOk size who n = true := by
  unfold sizesOk
  simp only [Bool.not_eq_false'] at h h2 h3
  rw [h, h2, h3]; rfl
theorem whole_no {a b c d size seed who n : Int} (h : sizesOk size who n = false) : Value.tuple ⟨[.int .i64 0, .bool false, .int .i64 9]⟩ = wholeF a b c d size seed who n := by
  simp only [wholeF, wholeT, wholeL, wholeE, okF, h, Bool.and_false, cond_false]
theorem whole_bad {a b c d size seed who n : Int} (h : linkOk a b c d = false) : Value.tuple ⟨[.int .i64 0, .bool false, .int .i64 (bif linkOk a b c d then 0 else 9)]⟩ = wholeF a b c d size seed who n := by
  simp only [wholeF, wholeT, wholeL, wholeE, okF, h, Bool.false_and, cond_false]
theorem whole_yes {a b c d size seed who n : Int} (hl : linkOk a b c d = true) (h : sizesOk size who n = true) : Value.tuple ⟨[.int .i64 (bif lostF d seed who n then 0 else tookF a b c size seed who n), .bool (lostF d seed who n), .int .i64 0]⟩ = wholeF a b c d size seed who n := by
  simp only [wholeF, wholeT, wholeL, wholeE, okF, hl, h, Bool.and_self, cond_true]
theorem link_of {a b c d : Int} (h : (!decide ((bif linkOk a b c d then (0 : Int) else 9) = 0)) = false) : linkOk a b c d = true := by rw [err_ne] at h; simpa using h
theorem link_of' {a b c d : Int} (h : (!decide ((bif linkOk a b c d then (0 : Int) else 9) = 0)) = true) : linkOk a b c d = false := by rw [err_ne] at h; simpa using h
theorem of_not {x : Bool} (h : (!x) = false) : x = true := by simpa using h
theorem whole_walk (a b c d size seed who n : Int) : Walk env Proofs.Tryz.f4 [link a b c d, .int .i64 size, .int .i64 seed, .int .i64 who, .int .i64 n] (wholeF a b c d size seed who n) := by
  refine ⟨_, _, rfl, rfl, rfl, ?_⟩
  repeat' (first
    | refine OL.op rfl ?_
    | refine OL.nil ?_
    | refine Then.normal ?_
    | refine W.seq ?_
    | refine W.region env_ok tbl3_ok ?_
    | refine RL.quiet rfl rfl rfl rfl rfl rfl rfl ?_
    | refine RL.skip rfl rfl ?_
    | refine RL.read env_sym rfl rfl rfl rfl rfl rfl (by repeat' (first | exact .nil | exact .bit rfl | refine .chk ⟨_, rfl, rfl⟩ ?_)) rfl ?_
    | refine RL.alloc rfl rfl rfl rfl rfl ?_
    | refine RL.eff env_sym rfl rfl rfl rfl rfl (by repeat' (first | exact .nil | refine .bit rfl ?_ | refine .chk ⟨_, rfl, rfl⟩ ?_)) rfl rfl ?_
    | refine RL.fin rfl ?_
    | refine W.drawn env_ok tbl3_ok (by kernel_rfl) rfl rfl rfl rfl ?_
    | refine W.block ?_
    | refine WR.next ?_
    | refine W.ret ?_
    | refine W.skip ?_
    | refine Then.ret ?_
    | refine Blk.normal ?_
    | refine Blk.ret ?_
    | refine Blk.out ?_
    | refine Blk.on rfl ?_
    | refine Then.exit ?_
    | refine W.exit ?_
    | refine Fin.ret rfl ?_
    | (refine OL.split rfl rfl rfl rfl rfl rfl (fun hb => ?_) (fun hb => ?_) <;> try contradiction)
    | (refine RL.split rfl rfl rfl rfl rfl rfl (fun hb => ?_) (fun hb => ?_) <;> try contradiction)
    | (refine W.cond rfl (fun hc => ?_) (fun hc => ?_) <;> try contradiction)
    | refine OL.quiet rfl (quiet_quo env_sym rfl rfl (by assumption)) rfl ?_
    | refine OL.quiet rfl (quiet_rem env_sym rfl rfl (by assumption)) rfl ?_
    | refine RL.quiet rfl rfl rfl rfl (quiet_quo env_sym rfl rfl (by assumption)) rfl rfl ?_
    | refine RL.quiet rfl rfl rfl rfl (quiet_rem env_sym rfl rfl (by assumption)) rfl rfl ?_
    | refine OL.eff rfl rfl rfl (eff_call rfl rfl rfl rfl (travel_app (link_of (by assumption)) (of_not (by assumption)))) rfl ?_)
  · exact .eq (whole_bad (link_of' hc)) (HF3 _ _ _)
  · exact .eq (whole_no (sizes_false (.inl hb))) (HF3 _ _ _)
  · exact .eq (whole_no (sizes_false (.inr (.inl hb)))) (HF3 _ _ _)
  · exact .eq (whole_no (sizes_false (.inr (.inr hc)))) (HF3 _ _ _)
  · exact .eq (whole_yes (link_of (by assumption)) (sizes_true (by assumption) (by assumption) (by assumption))) (HF3 _ _ _)
theorem sizes_falseR {size who n : Int} (h : (!(decide (0 ≤ size) && decide (size ≤ 10000000))) = true ∨ (!(decide (0 ≤ who) && decide (who ≤ 1000000000000))) = true ∨ (!(decide (0 ≤ n) && decide (n ≤ 1000000000000))) = true) : sizesOk size who n = false := sizes_false h
theorem wholeR_walk (a b c d size seed who n : Int) : Walk env Proofs.Tryz.f5 [link a b c d, .int .i64 size, .int .i64 seed, .int .i64 who, .int .i64 n] (wholeF a b c d size seed who n) := by
  refine ⟨_, _, rfl, rfl, rfl, ?_⟩
  repeat' (first
    | refine OL.op rfl ?_
    | refine OL.nil ?_
    | refine Then.normal ?_
    | refine W.seq ?_
    | refine W.region env_ok tbl3_ok ?_
    | refine RL.quiet rfl rfl rfl rfl rfl rfl rfl ?_
    | refine RL.skip rfl rfl ?_
    | refine RL.read env_sym rfl rfl rfl rfl rfl rfl (by repeat' (first | exact .nil | exact .bit rfl | refine .chk ⟨_, rfl, rfl⟩ ?_)) rfl ?_
    | refine RL.alloc rfl rfl rfl rfl rfl ?_
    | refine RL.eff env_sym rfl rfl rfl rfl rfl (by repeat' (first | exact .nil | refine .bit rfl ?_ | refine .chk ⟨_, rfl, rfl⟩ ?_)) rfl rfl ?_
    | refine RL.fin rfl ?_
    | refine W.drawn env_ok tbl3_ok (by kernel_rfl) rfl rfl rfl rfl ?_
    | refine W.block ?_
    | refine WR.next ?_
    | refine W.ret ?_
    | refine W.skip ?_
    | refine Then.ret ?_
    | refine Blk.normal ?_
    | refine Blk.ret ?_
    | refine Blk.out ?_
    | refine Blk.on rfl ?_
    | refine Then.exit ?_
    | refine W.exit ?_
    | refine Fin.ret rfl ?_
    | (refine OL.split rfl rfl rfl rfl rfl rfl (fun hb => ?_) (fun hb => ?_) <;> try contradiction)
    | (refine RL.split rfl rfl rfl rfl rfl rfl (fun hb => ?_) (fun hb => ?_) <;> try contradiction)
    | (refine W.cond rfl (fun hc => ?_) (fun hc => ?_) <;> try contradiction)
    | refine OL.quiet rfl (quiet_quo env_sym rfl rfl (by assumption)) rfl ?_
    | refine OL.quiet rfl (quiet_rem env_sym rfl rfl (by assumption)) rfl ?_
    | refine RL.quiet rfl rfl rfl rfl (quiet_quo env_sym rfl rfl (by assumption)) rfl rfl ?_
    | refine RL.quiet rfl rfl rfl rfl (quiet_rem env_sym rfl rfl (by assumption)) rfl rfl ?_
    | refine OL.eff rfl rfl rfl (eff_call rfl rfl rfl rfl (travel_app (link_of (by assumption)) (of_not (by assumption)))) rfl ?_)
  · exact .eq (whole_bad (link_of' hc)) (HF3 _ _ _)
  · exact .eq (whole_no (sizes_false (.inl hb))) (HF3 _ _ _)
  · exact .eq (whole_no (sizes_false (.inr (.inl hb)))) (HF3 _ _ _)
  · exact .eq (whole_no (sizes_false (.inr (.inr hc)))) (HF3 _ _ _)
  · exact .eq (whole_yes (link_of (by assumption)) (sizes_true (by assumption) (by assumption) (by assumption))) (HF3 _ _ _)
def wholeX : List Value → Option Value
  | [.agg ⟨[.int .i64 a, .int .i64 b, .int .i64 c, .int .i64 d]⟩, .int .i64 size, .int .i64 seed, .int .i64 who, .int .i64 n] => some (wholeF a b c d size seed who n)
  | _ => none
theorem whole_con : Con env 4 (pureX wholeX) := con_pure env_ok env_gl (fn := Proofs.Tryz.f4) rfl fun args v h => by
  unfold wholeX at h
  split at h
  · simp only [Option.some.injEq] at h
    subst h
    exact ⟨HF.cons (HF_link _ _ _ _) (HF_tail _ _ _ _), whole_walk _ _ _ _ _ _ _ _⟩
  · cases h
theorem wholeR_con : Con env 5 (pureX wholeX) := con_pure env_ok env_gl (fn := Proofs.Tryz.f5) rfl fun args v h => by
  unfold wholeX at h
  split at h
  · simp only [Option.some.injEq] at h
    subst h
    exact ⟨HF.cons (HF_link _ _ _ _) (HF_tail _ _ _ _), wholeR_walk _ _ _ _ _ _ _ _⟩
  · cases h
def ranX : List Value → Option Value
  | [] => some (.bool true)
  | _ => none
theorem ran_con (h : ∀ w, Calls Proofs.Tryz.prog 8 #[] w fun e w' => e = .returned (.bool true) ∧ RowKit.Below w.heap.size w w') : Con env 8 (pureX ranX) := con_calls fun args v hv => by
  unfold ranX at hv
  split at hv
  · simp only [Option.some.injEq] at hv
    subst hv
    exact ⟨rfl, rfl, h⟩
  · cases hv
def tbl4 : List (FuncId × ExtF) := [(4, pureX wholeX), (5, pureX wholeX), (6, pureX linkX), (7, pureX linkX), (8, pureX ranX)]
theorem tbl4_ok (h : Con env 8 (pureX ranX)) : CallOk env (calls tbl4) := calls_ok (.cons whole_con (.cons wholeR_con (.cons link_con (.cons linkR_con (.cons h .nil)))))
theorem law_walk (hr : Con env 8 (pureX ranX)) (a b c d size seed who n : Int) : Walk env Proofs.Tryz.f3 [link a b c d, .int .i64 size, .int .i64 seed, .int .i64 who, .int .i64 n] (.bool true) := by
  refine ⟨_, _, rfl, rfl, rfl, ?_⟩
  have hcall := tbl4_ok hr
  repeat' (first
    | refine OL.op rfl ?_
    | refine OL.nil ?_
    | refine Then.normal ?_
    | refine W.seq ?_
    | refine W.region env_ok hcall ?_
    | refine RL.quiet rfl rfl rfl rfl rfl rfl rfl ?_
    | refine RL.skip rfl rfl ?_
    | refine RL.read env_sym rfl rfl rfl rfl rfl rfl (by repeat' (first | exact .nil | exact .bit rfl | refine .chk ⟨_, rfl, rfl⟩ ?_)) rfl ?_
    | refine RL.alloc rfl rfl rfl rfl rfl ?_
    | refine RL.eff env_sym rfl rfl rfl rfl rfl (by repeat' (first | exact .nil | refine .bit rfl ?_ | refine .chk ⟨_, rfl, rfl⟩ ?_)) rfl rfl ?_
    | refine RL.fin rfl ?_
    | refine W.drawn env_ok hcall (by kernel_rfl) rfl rfl rfl rfl ?_
    | refine W.block ?_
    | refine WR.next ?_
    | refine W.ret ?_
    | refine W.skip ?_
    | refine Then.ret ?_
    | refine Blk.normal ?_
    | refine Blk.ret ?_
    | refine Blk.out ?_
    | refine Blk.on rfl ?_
    | refine Then.exit ?_
    | refine W.exit ?_
    | refine Fin.ret rfl ?_
    | (refine OL.split rfl rfl rfl rfl rfl rfl (fun hb => ?_) (fun hb => ?_) <;> try contradiction)
    | (refine RL.split rfl rfl rfl rfl rfl rfl (fun hb => ?_) (fun hb => ?_) <;> try contradiction)
    | (refine W.cond rfl (fun hc => ?_) (fun hc => ?_) <;> try contradiction)
    | refine OL.quiet rfl (quiet_quo env_sym rfl rfl (by assumption)) rfl ?_
    | refine OL.quiet rfl (quiet_rem env_sym rfl rfl (by assumption)) rfl ?_
    | refine RL.quiet rfl rfl rfl rfl (quiet_quo env_sym rfl rfl (by assumption)) rfl rfl ?_
    | refine RL.quiet rfl rfl rfl rfl (quiet_rem env_sym rfl rfl (by assumption)) rfl rfl ?_)
  all_goals first
    | exact .eq rfl (.scal rfl)
    | (exfalso; simp at hb)
def lawX : List Value → Option Value
  | [.agg ⟨[.int .i64 a, .int .i64 b, .int .i64 c, .int .i64 d]⟩, .int .i64 size, .int .i64 seed, .int .i64 who, .int .i64 n] => some (.bool true)
  | _ => none
theorem law_con : Con env 3 (pureX lawX) := con_pure env_ok env_gl (fn := Proofs.Tryz.f3) rfl fun args v h => by
  unfold lawX at h
  split at h
  · simp only [Option.some.injEq] at h
    subst h
    exact ⟨HF.cons (HF_link _ _ _ _) (HF_tail _ _ _ _), law_walk (ran_con ran_true) _ _ _ _ _ _ _ _⟩
  · cases h
/-- The law, called at whatever numbers: it returns true, and below the heap's old size nothing has turned. -/
theorem law_calls (a b c d size seed who n : Int) (w : World) : Calls Proofs.Tryz.prog 3 #[.agg #[.int .i64 a, .int .i64 b, .int .i64 c, .int .i64 d], .int .i64 size, .int .i64 seed, .int .i64 who, .int .i64 n] w fun e w' => e = .returned (.bool true) ∧ RowKit.Below w.heap.size w w' :=
  calls_flat env_gl law_con (args := [link a b c d, .int .i64 size, .int .i64 seed, .int .i64 who, .int .i64 n]) rfl rfl w (flats_refl rfl)
end
end Go.T8
