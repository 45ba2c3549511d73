/- A part of the proof. -/
import Derived.Test.YtcplcanaonmmpaaGreatDoorR
import Derived.Test.YtcplcanaonmmpaaGreatDoorC
import Derived.KernelRfl
set_option maxRecDepth 1000000
set_option linter.unusedVariables false
namespace Go.T9
open Go Go.AM
set_option maxHeartbeats 4000000
noncomputable section
theorem HFi (k : IntKind) (x : Int) : HF (.int k x) := .scal rfl
theorem HFb (b : Bool) : HF (.bool b) := .scal rfl
def tbl0 : List (FuncId × ExtF) := []
theorem tbl0_ok : CallOk env (calls tbl0) := calls_ok .nil
/-- A trouble. -/
structure Tr where
  (k n f t v : Int)
def tv (x : Tr) : Value := .agg ⟨[.int .i64 x.k, .int .i64 x.n, .int .i64 x.f, .int .i64 x.t, .int .i64 x.v]⟩
def dat (sz : Nat) (els : List Value) : Value := .func (.yield sz) ⟨els⟩ ⟨[]⟩
theorem HF_tv (x : Tr) : HF (tv x) := .agg (HF.cons (HFi _ _) (HF.cons (HFi _ _) (HF.cons (HFi _ _) (HF.cons (HFi _ _) (HF.cons (HFi _ _) HF.nil)))))
theorem HF_trs (xs : List Tr) : HF (dat 5 (xs.map tv)) := .dat fun y hy => by
  obtain ⟨x, _, rfl⟩ := List.mem_map.1 hy
  exact HF_tv x
theorem HF_two (x : Int) (b : Bool) : HF (.tuple ⟨[.int .i64 x, .bool b]⟩) := .tuple (HF.cons (HFi _ _) (HF.cons (HFb _) HF.nil))
def hit (kind number t : Int) (x : Tr) : Bool := ((decide (x.k = kind) && decide (x.n = number)) && decide (x.f ≤ t)) && decide (t < x.t)
def findT (kind number t : Int) : List Tr → Value
  | [] => .tuple ⟨[.int .i64 0, .bool false]⟩
  | x :: l => bif hit kind number t x then .tuple ⟨[.int .i64 x.v, .bool true]⟩ else findT kind number t l
def frT (xs : List Tr) (kind number t : Int) (i : Nat) : T Value := (.node (.node (.node .leaf (some (.int .i64 t)) .leaf) (some (.int .i64 kind)) (.node .leaf none (.node .leaf (some (.int .i64 xs.length)) .leaf))) none (.node (.node .leaf none (.node .leaf (some (dat 5 (xs.map tv))) .leaf)) (some (.int .i64 number)) (.node .leaf none (.node .leaf (some (.int .i64 i)) .leaf))))
theorem trouble_walk (xs : List Tr) (kind number t : Int) (hl : xs.length ≤ 100) : Walk env Proofs.Tryz.f43 [dat 5 (xs.map tv), .int .i64 kind, .int .i64 number, .int .i64 t] (findT kind number t xs) := by
  refine ⟨_, _, rfl, rfl, rfl, ?_⟩
  repeat' (first
    | refine OL.op rfl ?_
    | refine OL.nil ?_
    | refine Then.normal ?_
    | refine W.seq ?_
    | refine W.region env_ok tbl0_ok ?_
    | refine RL.quiet rfl rfl rfl rfl rfl rfl rfl ?_
    | refine RL.skip rfl rfl ?_
    | refine RL.read env_sym rfl rfl rfl rfl rfl rfl (by repeat' (first | exact .nil | exact .bit rfl | refine .chk ⟨_, rfl, rfl⟩ ?_)) rfl ?_
    | refine RL.alloc rfl rfl rfl rfl rfl ?_
    | refine RL.eff env_sym rfl rfl rfl rfl rfl (by repeat' (first | exact .nil | refine .bit rfl ?_ | refine .chk ⟨_, rfl, rfl⟩ ?_)) rfl rfl ?_
    | refine RL.fin rfl ?_
    | refine W.drawn env_ok tbl0_ok (by kernel_rfl) rfl rfl rfl rfl ?_
    | refine W.block ?_
    | refine WR.next ?_
    | refine W.ret ?_
    | refine W.skip ?_
    | refine Then.ret ?_
    | refine Blk.normal ?_
    | refine Blk.ret ?_
    | refine Blk.out ?_
    | refine Blk.on rfl ?_
    | refine Then.exit ?_
    | refine W.exit ?_
    | refine Fin.ret rfl ?_
    | (refine OL.split rfl rfl rfl rfl rfl rfl (fun hb => ?_) (fun hb => ?_) <;> try contradiction)
    | (refine RL.split rfl rfl rfl rfl rfl rfl (fun hb => ?_) (fun hb => ?_) <;> try contradiction)
    | (refine W.cond rfl (fun hc => ?_) (fun hc => ?_) <;> try contradiction)
    | refine OL.quiet rfl (quiet_quo env_sym rfl rfl (by assumption)) rfl ?_
    | refine OL.quiet rfl (quiet_rem env_sym rfl rfl (by assumption)) rfl ?_
    | refine RL.quiet rfl rfl rfl rfl (quiet_quo env_sym rfl rfl (by assumption)) rfl rfl ?_
    | refine RL.quiet rfl rfl rfl rfl (quiet_rem env_sym rfl rfl (by assumption)) rfl rfl ?_)
  refine W.loopT (fun m F A => ∃ i : Nat, F = frT xs kind number t i ∧ A = ⟨.leaf, 0⟩ ∧ i + m = xs.length ∧ findT kind number t (xs.drop i) = findT kind number t xs) ?_ (m := xs.length) ⟨0, rfl, rfl, by simp, by simp⟩ ?_
  · rintro m F A ⟨i, rfl, rfl, hm, hfind⟩
    by_cases hlt : i < xs.length
    · obtain ⟨x, hx⟩ : ∃ x, xs[i]? = some x := ⟨xs[i], by simp [hlt]⟩
      have hn := nth_map (f := tv) hx
      have hd := drop_cons hx
      unfold frT
      repeat' (first
    | refine OL.op rfl ?_
    | refine OL.nil ?_
    | refine Then.normal ?_
    | refine W.seq ?_
    | refine W.region env_ok tbl0_ok ?_
    | refine RL.quiet rfl rfl rfl rfl rfl rfl rfl ?_
    | refine RL.skip rfl rfl ?_
    | refine RL.read env_sym rfl rfl rfl rfl rfl rfl (by repeat' (first | exact .nil | exact .bit rfl | refine .chk ⟨_, rfl, rfl⟩ ?_)) rfl ?_
    | refine RL.alloc rfl rfl rfl rfl rfl ?_
    | refine RL.eff env_sym rfl rfl rfl rfl rfl (by repeat' (first | exact .nil | refine .bit rfl ?_ | refine .chk ⟨_, rfl, rfl⟩ ?_)) rfl rfl ?_
    | refine RL.fin rfl ?_
    | refine W.drawn env_ok tbl0_ok (by kernel_rfl) rfl rfl rfl rfl ?_
    | refine W.block ?_
    | refine WR.next ?_
    | refine W.ret ?_
    | refine W.skip ?_
    | refine Then.ret ?_
    | refine Blk.normal ?_
    | refine Blk.ret ?_
    | refine Blk.out ?_
    | refine Blk.on rfl ?_
    | refine Then.exit ?_
    | refine W.exit ?_
    | refine Fin.ret rfl ?_
    | (refine OL.split rfl rfl rfl rfl rfl rfl (fun hb => ?_) (fun hb => ?_) <;> try contradiction)
    | (refine RL.split rfl rfl rfl rfl rfl rfl (fun hb => ?_) (fun hb => ?_) <;> try contradiction)
    | (refine W.cond rfl (fun hc => ?_) (fun hc => ?_) <;> try (first | contradiction | (exfalso; simp at hc; omega)))
    | refine OL.quiet rfl (quiet_quo env_sym rfl rfl (by assumption)) rfl ?_
    | refine OL.quiet rfl (quiet_rem env_sym rfl rfl (by assumption)) rfl ?_
    | refine RL.quiet rfl rfl rfl rfl (quiet_quo env_sym rfl rfl (by assumption)) rfl rfl ?_
    | refine RL.quiet rfl rfl rfl rfl (quiet_rem env_sym rfl rfl (by assumption)) rfl rfl ?_
    | refine OL.quiet rfl (quiet_idx env_sym rfl rfl rfl rfl rfl (Int.natCast_nonneg i) (by simpa using hlt)) rfl ?_
    | refine OL.quiet rfl (quiet_load env_sym rfl hn rfl) rfl ?_)
      all_goals simp only [decide_eq_true_eq, decide_eq_false_iff_not] at *
      all_goals first
        | (refine .eq ?_ (HF_two _ _)
           rw [← hfind, hd]
           simp [findT, hit, *])
        | (refine ⟨m - 1, frT xs kind number t (i + 1), ⟨.leaf, 0⟩, by omega, ⟨i + 1, rfl, rfl, by omega, ?_⟩, Turns.ren env_gl rfl [] [(1, (.int .i64 kind)), (2, (.int .i64 number)), (3, (.int .i64 t)), (12, (dat 5 (xs.map tv))), (13, (.int .i64 xs.length)), (14, (.int .i64 (i + 1 : Nat)))] [] 0 rfl (by kernel_rfl) rfl ?_ .nil⟩
           · rw [← hfind, hd]
             simp [findT, hit, *]
           · (repeat' (first | exact .nil | refine .cons rfl (.hf (HFi _ _)) ?_ | refine .cons rfl (.hf (HFb _)) ?_ | refine .cons rfl (.hf (HF_trs _)) ?_ | refine .consE rfl (idx_succ (by omega)) (.hf (HFi _ _)) ?_ | refine .consE rfl (by simp) (.hf (HFi _ _)) ?_)))
    · have hd : xs.drop i = [] := List.drop_eq_nil_of_le (by omega)
      unfold frT
      repeat' (first
    | refine OL.op rfl ?_
    | refine OL.nil ?_
    | refine Then.normal ?_
    | refine W.seq ?_
    | refine W.region env_ok tbl0_ok ?_
    | refine RL.quiet rfl rfl rfl rfl rfl rfl rfl ?_
    | refine RL.skip rfl rfl ?_
    | refine RL.read env_sym rfl rfl rfl rfl rfl rfl (by repeat' (first | exact .nil | exact .bit rfl | refine .chk ⟨_, rfl, rfl⟩ ?_)) rfl ?_
    | refine RL.alloc rfl rfl rfl rfl rfl ?_
    | refine RL.eff env_sym rfl rfl rfl rfl rfl (by repeat' (first | exact .nil | refine .bit rfl ?_ | refine .chk ⟨_, rfl, rfl⟩ ?_)) rfl rfl ?_
    | refine RL.fin rfl ?_
    | refine W.drawn env_ok tbl0_ok (by kernel_rfl) rfl rfl rfl rfl ?_
    | refine W.block ?_
    | refine WR.next ?_
    | refine W.ret ?_
    | refine W.skip ?_
    | refine Then.ret ?_
    | refine Blk.normal ?_
    | refine Blk.ret ?_
    | refine Blk.out ?_
    | refine Blk.on rfl ?_
    | refine Then.exit ?_
    | refine W.exit ?_
    | refine Fin.ret rfl ?_
    | (refine OL.split rfl rfl rfl rfl rfl rfl (fun hb => ?_) (fun hb => ?_) <;> try contradiction)
    | (refine RL.split rfl rfl rfl rfl rfl rfl (fun hb => ?_) (fun hb => ?_) <;> try contradiction)
    | (refine W.cond rfl (fun hc => ?_) (fun hc => ?_) <;> try (first | contradiction | (exfalso; simp at hc; omega)))
    | refine OL.quiet rfl (quiet_quo env_sym rfl rfl (by assumption)) rfl ?_
    | refine OL.quiet rfl (quiet_rem env_sym rfl rfl (by assumption)) rfl ?_
    | refine RL.quiet rfl rfl rfl rfl (quiet_quo env_sym rfl rfl (by assumption)) rfl rfl ?_
    | refine RL.quiet rfl rfl rfl rfl (quiet_rem env_sym rfl rfl (by assumption)) rfl rfl ?_)
      refine .eq ?_ (HF_two _ _)
      rw [← hfind, hd]; rfl
  · refine Turns.ren env_gl rfl [] [(1, (.int .i64 kind)), (2, (.int .i64 number)), (3, (.int .i64 t)), (12, (dat 5 (xs.map tv))), (13, (.int .i64 xs.length)), (14, (.int .i64 (0 : Nat)))] [] 0 rfl (by kernel_rfl) rfl ?_ .nil
    (repeat' (first | exact .nil | refine .cons rfl (.hf (HFi _ _)) ?_ | refine .cons rfl (.hf (HFb _)) ?_ | refine .cons rfl (.hf (HF_trs _)) ?_ | refine .consE rfl (idx_succ (by omega)) (.hf (HFi _ _)) ?_ | refine .consE rfl (by simp) (.hf (HFi _ _)) ?_))
theorem troubleR_walk (xs : List Tr) (kind number t : Int) (hl : xs.length ≤ 100) : Walk env Proofs.Tryz.f46 [dat 5 (xs.map tv), .int .i64 kind, .int .i64 number, .int .i64 t] (findT kind number t xs) := by
  refine ⟨_, _, rfl, rfl, rfl, ?_⟩
  repeat' (first
    | refine OL.op rfl ?_
    | refine OL.nil ?_
    | refine Then.normal ?_
    | refine W.seq ?_
    | refine W.region env_ok tbl0_ok ?_
    | refine RL.quiet rfl rfl rfl rfl rfl rfl rfl ?_
    | refine RL.skip rfl rfl ?_
    | refine RL.read env_sym rfl rfl rfl rfl rfl rfl (by repeat' (first | exact .nil | exact .bit rfl | refine .chk ⟨_, rfl, rfl⟩ ?_)) rfl ?_
    | refine RL.alloc rfl rfl rfl rfl rfl ?_
    | refine RL.eff env_sym rfl rfl rfl rfl rfl (by repeat' (first | exact .nil | refine .bit rfl ?_ | refine .chk ⟨_, rfl, rfl⟩ ?_)) rfl rfl ?_
    | refine RL.fin rfl ?_
    | refine W.drawn env_ok tbl0_ok (by kernel_rfl) rfl rfl rfl rfl ?_
    | refine W.block ?_
    | refine WR.next ?_
    | refine W.ret ?_
    | refine W.skip ?_
    | refine Then.ret ?_
    | refine Blk.normal ?_
    | refine Blk.ret ?_
    | refine Blk.out ?_
    | refine Blk.on rfl ?_
    | refine Then.exit ?_
    | refine W.exit ?_
    | refine Fin.ret rfl ?_
    | (refine OL.split rfl rfl rfl rfl rfl rfl (fun hb => ?_) (fun hb => ?_) <;> try contradiction)
    | (refine RL.split rfl rfl rfl rfl rfl rfl (fun hb => ?_) (fun hb => ?_) <;> try contradiction)
    | (refine W.cond rfl (fun hc => ?_) (fun hc => ?_) <;> try contradiction)
    | refine OL.quiet rfl (quiet_quo env_sym rfl rfl (by assumption)) rfl ?_
    | refine OL.quiet rfl (quiet_rem env_sym rfl rfl (by assumption)) rfl ?_
    | refine RL.quiet rfl rfl rfl rfl (quiet_quo env_sym rfl rfl (by assumption)) rfl rfl ?_
    | refine RL.quiet rfl rfl rfl rfl (quiet_rem env_sym rfl rfl (by assumption)) rfl rfl ?_)
  refine W.loopT (fun m F A => ∃ i : Nat, F = frT xs kind number t i ∧ A = ⟨.leaf, 0⟩ ∧ i + m = xs.length ∧ findT kind number t (xs.drop i) = findT kind number t xs) ?_ (m := xs.length) ⟨0, rfl, rfl, by simp, by simp⟩ ?_
  · rintro m F A ⟨i, rfl, rfl, hm, hfind⟩
    by_cases hlt : i < xs.length
    · obtain ⟨x, hx⟩ : ∃ x, xs[i]? = some x := ⟨xs[i], by simp [hlt]⟩
      have hn := nth_map (f := tv) hx
      have hd := drop_cons hx
      unfold frT
      repeat' (first
    | refine OL.op rfl ?_
    | refine OL.nil ?_
    | refine Then.normal ?_
    | refine W.seq ?_
    | refine W.region env_ok tbl0_ok ?_
    | refine RL.quiet rfl rfl rfl rfl rfl rfl rfl ?_
    | refine RL.skip rfl rfl ?_
    | refine RL.read env_sym rfl rfl rfl rfl rfl rfl (by repeat' (first | exact .nil | exact .bit rfl | refine .chk ⟨_, rfl, rfl⟩ ?_)) rfl ?_
    | refine RL.alloc rfl rfl rfl rfl rfl ?_
    | refine RL.eff env_sym rfl rfl rfl rfl rfl (by repeat' (first | exact .nil | refine .bit rfl ?_ | refine .chk ⟨_, rfl, rfl⟩ ?_)) rfl rfl ?_
    | refine RL.fin rfl ?_
    | refine W.drawn env_ok tbl0_ok (by kernel_rfl) rfl rfl rfl rfl ?_
    | refine W.block ?_
    | refine WR.next ?_
    | refine W.ret ?_
    | refine W.skip ?_
    | refine Then.ret ?_
    | refine Blk.normal ?_
    | refine Blk.ret ?_
    | refine Blk.out ?_
    | refine Blk.on rfl ?_
    | refine Then.exit ?_
    | refine W.exit ?_
    | refine Fin.ret rfl ?_
    | (refine OL.split rfl rfl rfl rfl rfl rfl (fun hb => ?_) (fun hb => ?_) <;> try contradiction)
    | (refine RL.split rfl rfl rfl rfl rfl rfl (fun hb => ?_) (fun hb => ?_) <;> try contradiction)
    | (refine W.cond rfl (fun hc => ?_) (fun hc => ?_) <;> try (first | contradiction | (exfalso; simp at hc; omega)))
    | refine OL.quiet rfl (quiet_quo env_sym rfl rfl (by assumption)) rfl ?_
    | refine OL.quiet rfl (quiet_rem env_sym rfl rfl (by assumption)) rfl ?_
    | refine RL.quiet rfl rfl rfl rfl (quiet_quo env_sym rfl rfl (by assumption)) rfl rfl ?_
    | refine RL.quiet rfl rfl rfl rfl (quiet_rem env_sym rfl rfl (by assumption)) rfl rfl ?_
    | refine OL.quiet rfl (quiet_idx env_sym rfl rfl rfl rfl rfl (Int.natCast_nonneg i) (by simpa using hlt)) rfl ?_
    | refine OL.quiet rfl (quiet_load env_sym rfl hn rfl) rfl ?_)
      all_goals simp only [decide_eq_true_eq, decide_eq_false_iff_not] at *
      all_goals first
        | (refine .eq ?_ (HF_two _ _)
           rw [← hfind, hd]
           simp [findT, hit, *])
        | (refine ⟨m - 1, frT xs kind number t (i + 1), ⟨.leaf, 0⟩, by omega, ⟨i + 1, rfl, rfl, by omega, ?_⟩, Turns.ren env_gl rfl [] [(1, (.int .i64 kind)), (2, (.int .i64 number)), (3, (.int .i64 t)), (12, (dat 5 (xs.map tv))), (13, (.int .i64 xs.length)), (14, (.int .i64 (i + 1 : Nat)))] [] 0 rfl (by kernel_rfl) rfl ?_ .nil⟩
           · rw [← hfind, hd]
             simp [findT, hit, *]
           · (repeat' (first | exact .nil | refine .cons rfl (.hf (HFi _ _)) ?_ | refine .cons rfl (.hf (HFb _)) ?_ | refine .cons rfl (.hf (HF_trs _)) ?_ | refine .consE rfl (idx_succ (by omega)) (.hf (HFi _ _)) ?_ | refine .consE rfl (by simp) (.hf (HFi _ _)) ?_)))
    · have hd : xs.drop i = [] := List.drop_eq_nil_of_le (by omega)
      unfold frT
      repeat' (first
    | refine OL.op rfl ?_
    | refine OL.nil ?_
    | refine Then.normal ?_
    | refine W.seq ?_
    | refine W.region env_ok tbl0_ok ?_
    | refine RL.quiet rfl rfl rfl rfl rfl rfl rfl ?_
    | refine RL.skip rfl rfl ?_
    | refine RL.read env_sym rfl rfl rfl rfl rfl rfl (by repeat' (first | exact .nil | exact .bit rfl | refine .chk ⟨_, rfl, rfl⟩ ?_)) rfl ?_
    | refine RL.alloc rfl rfl rfl rfl rfl ?_
    | refine RL.eff env_sym rfl rfl rfl rfl rfl (by repeat' (first | exact .nil | refine .bit rfl ?_ | refine .chk ⟨_, rfl, rfl⟩ ?_)) rfl rfl ?_
    | refine RL.fin rfl ?_
    | refine W.drawn env_ok tbl0_ok (by kernel_rfl) rfl rfl rfl rfl ?_
    | refine W.block ?_
    | refine WR.next ?_
    | refine W.ret ?_
    | refine W.skip ?_
    | refine Then.ret ?_
    | refine Blk.normal ?_
    | refine Blk.ret ?_
    | refine Blk.out ?_
    | refine Blk.on rfl ?_
    | refine Then.exit ?_
    | refine W.exit ?_
    | refine Fin.ret rfl ?_
    | (refine OL.split rfl rfl rfl rfl rfl rfl (fun hb => ?_) (fun hb => ?_) <;> try contradiction)
    | (refine RL.split rfl rfl rfl rfl rfl rfl (fun hb => ?_) (fun hb => ?_) <;> try contradiction)
    | (refine W.cond rfl (fun hc => ?_) (fun hc => ?_) <;> try (first | contradiction | (exfalso; simp at hc; omega)))
    | refine OL.quiet rfl (quiet_quo env_sym rfl rfl (by assumption)) rfl ?_
    | refine OL.quiet rfl (quiet_rem env_sym rfl rfl (by assumption)) rfl ?_
    | refine RL.quiet rfl rfl rfl rfl (quiet_quo env_sym rfl rfl (by assumption)) rfl rfl ?_
    | refine RL.quiet rfl rfl rfl rfl (quiet_rem env_sym rfl rfl (by assumption)) rfl rfl ?_)
      refine .eq ?_ (HF_two _ _)
      rw [← hfind, hd]; rfl
  · refine Turns.ren env_gl rfl [] [(1, (.int .i64 kind)), (2, (.int .i64 number)), (3, (.int .i64 t)), (12, (dat 5 (xs.map tv))), (13, (.int .i64 xs.length)), (14, (.int .i64 (0 : Nat)))] [] 0 rfl (by kernel_rfl) rfl ?_ .nil
    (repeat' (first | exact .nil | refine .cons rfl (.hf (HFi _ _)) ?_ | refine .cons rfl (.hf (HFb _)) ?_ | refine .cons rfl (.hf (HF_trs _)) ?_ | refine .consE rfl (idx_succ (by omega)) (.hf (HFi _ _)) ?_ | refine .consE rfl (by simp) (.hf (HFi _ _)) ?_))

/-! ### Small tests -/
theorem inside_walk (n a b : Int) : Walk env Proofs.Tryz.f42 [.int .i64 n, .int .i64 a, .int .i64 b] (.bool (decide (a ≤ n) && decide (n ≤ b))) := by
  refine ⟨_, _, rfl, rfl, rfl, ?_⟩
  repeat' (first
    | refine OL.op rfl ?_
    | refine OL.nil ?_
    | refine Then.normal ?_
    | refine W.seq ?_
    | refine W.region env_ok tbl0_ok ?_
    | refine RL.quiet rfl rfl rfl rfl rfl rfl rfl ?_
    | refine RL.skip rfl rfl ?_
    | refine RL.read env_sym rfl rfl rfl rfl rfl rfl (by repeat' (first | exact .nil | exact .bit rfl | refine .chk ⟨_, rfl, rfl⟩ ?_)) rfl ?_
    | refine RL.alloc rfl rfl rfl rfl rfl ?_
    | refine RL.eff env_sym rfl rfl rfl rfl rfl (by repeat' (first | exact .nil | refine .bit rfl ?_ | refine .chk ⟨_, rfl, rfl⟩ ?_)) rfl rfl ?_
    | refine RL.fin rfl ?_
    | refine W.drawn env_ok tbl0_ok (by kernel_rfl) rfl rfl rfl rfl ?_
    | refine W.block ?_
    | refine WR.next ?_
    | refine W.ret ?_
    | refine W.skip ?_
    | refine Then.ret ?_
    | refine Blk.normal ?_
    | refine Blk.ret ?_
    | refine Blk.out ?_
    | refine Blk.on rfl ?_
    | refine Then.exit ?_
    | refine W.exit ?_
    | refine Fin.ret rfl ?_
    | (refine OL.split rfl rfl rfl rfl rfl rfl (fun hb => ?_) (fun hb => ?_) <;> try contradiction)
    | (refine RL.split rfl rfl rfl rfl rfl rfl (fun hb => ?_) (fun hb => ?_) <;> try contradiction)
    | (refine W.cond rfl (fun hc => ?_) (fun hc => ?_) <;> try contradiction)
    | refine OL.quiet rfl (quiet_quo env_sym rfl rfl (by assumption)) rfl ?_
    | refine OL.quiet rfl (quiet_rem env_sym rfl rfl (by assumption)) rfl ?_
    | refine RL.quiet rfl rfl rfl rfl (quiet_quo env_sym rfl rfl (by assumption)) rfl rfl ?_
    | refine RL.quiet rfl rfl rfl rfl (quiet_rem env_sym rfl rfl (by assumption)) rfl rfl ?_)
  · exact .eq (by simp [hb]) (.scal rfl)
  · exact .eq (by simp [hb]) (.scal rfl)
theorem outside_walk (n a b : Int) : Walk env Proofs.Tryz.f45 [.int .i64 n, .int .i64 a, .int .i64 b] (.bool (!(decide (a ≤ n) && decide (n ≤ b)))) := by
  refine ⟨_, _, rfl, rfl, rfl, ?_⟩
  repeat' (first
    | refine OL.op rfl ?_
    | refine OL.nil ?_
    | refine Then.normal ?_
    | refine W.seq ?_
    | refine W.region env_ok tbl0_ok ?_
    | refine RL.quiet rfl rfl rfl rfl rfl rfl rfl ?_
    | refine RL.skip rfl rfl ?_
    | refine RL.read env_sym rfl rfl rfl rfl rfl rfl (by repeat' (first | exact .nil | exact .bit rfl | refine .chk ⟨_, rfl, rfl⟩ ?_)) rfl ?_
    | refine RL.alloc rfl rfl rfl rfl rfl ?_
    | refine RL.eff env_sym rfl rfl rfl rfl rfl (by repeat' (first | exact .nil | refine .bit rfl ?_ | refine .chk ⟨_, rfl, rfl⟩ ?_)) rfl rfl ?_
    | refine RL.fin rfl ?_
    | refine W.drawn env_ok tbl0_ok (by kernel_rfl) rfl rfl rfl rfl ?_
    | refine W.block ?_
    | refine WR.next ?_
    | refine W.ret ?_
    | refine W.skip ?_
    | refine Then.ret ?_
    | refine Blk.normal ?_
    | refine Blk.ret ?_
    | refine Blk.out ?_
    | refine Blk.on rfl ?_
    | refine Then.exit ?_
    | refine W.exit ?_
    | refine Fin.ret rfl ?_
    | (refine OL.split rfl rfl rfl rfl rfl rfl (fun hb => ?_) (fun hb => ?_) <;> try contradiction)
    | (refine RL.split rfl rfl rfl rfl rfl rfl (fun hb => ?_) (fun hb => ?_) <;> try contradiction)
    | (refine W.cond rfl (fun hc => ?_) (fun hc => ?_) <;> try contradiction)
    | refine OL.quiet rfl (quiet_quo env_sym rfl rfl (by assumption)) rfl ?_
    | refine OL.quiet rfl (quiet_rem env_sym rfl rfl (by assumption)) rfl ?_
    | refine RL.quiet rfl rfl rfl rfl (quiet_quo env_sym rfl rfl (by assumption)) rfl rfl ?_
    | refine RL.quiet rfl rfl rfl rfl (quiet_rem env_sym rfl rfl (by assumption)) rfl rfl ?_)
  all_goals refine .eq (congrArg Value.bool ?_) (.scal rfl)
  all_goals simp only [decide_eq_true_eq, decide_eq_false_iff_not] at hb
  · simp; omega
  · by_cases h : b < n <;> simp [h] <;> omega
def insideX : List Value → Option Value
  | [.int .i64 n, .int .i64 a, .int .i64 b] => some (.bool (decide (a ≤ n) && decide (n ≤ b)))
  | _ => none
def outsideX : List Value → Option Value
  | [.int .i64 n, .int .i64 a, .int .i64 b] => some (.bool (!(decide (a ≤ n) && decide (n ≤ b))))
  | _ => none
theorem inside_con : Con env 42 (pureX insideX) := con_pure env_ok env_gl (fn := Proofs.Tryz.f42) rfl fun args v h => by
  unfold insideX at h
  split at h
  · simp only [Option.some.injEq] at h
    subst h
    exact ⟨HF.cons (.scal rfl) (HF.cons (.scal rfl) (HF.cons (.scal rfl) HF.nil)), inside_walk _ _ _⟩
  · cases h
theorem outside_con : Con env 45 (pureX outsideX) := con_pure env_ok env_gl (fn := Proofs.Tryz.f45) rfl fun args v h => by
  unfold outsideX at h
  split at h
  · simp only [Option.some.injEq] at h
    subst h
    exact ⟨HF.cons (.scal rfl) (HF.cons (.scal rfl) (HF.cons (.scal rfl) HF.nil)), outside_walk _ _ _⟩
  · cases h
def tblI : List (FuncId × ExtF) := [(42, pureX insideX)]
theorem tblI_ok : CallOk env (calls tblI) := calls_ok (.cons inside_con .nil)
theorem ofLink_walk (k : Int) : Walk env Proofs.Tryz.f79 [.int .i64 k] (.bool (decide (k = 4) || decide (k = 5))) := by
  refine ⟨_, _, rfl, rfl, rfl, ?_⟩
  repeat' (first
    | refine OL.op rfl ?_
    | refine OL.nil ?_
    | refine Then.normal ?_
    | refine W.seq ?_
    | refine W.region env_ok tbl0_ok ?_
    | refine RL.quiet rfl rfl rfl rfl rfl rfl rfl ?_
    | refine RL.skip rfl rfl ?_
    | refine RL.read env_sym rfl rfl rfl rfl rfl rfl (by repeat' (first | exact .nil | exact .bit rfl | refine .chk ⟨_, rfl, rfl⟩ ?_)) rfl ?_
    | refine RL.alloc rfl rfl rfl rfl rfl ?_
    | refine RL.eff env_sym rfl rfl rfl rfl rfl (by repeat' (first | exact .nil | refine .bit rfl ?_ | refine .chk ⟨_, rfl, rfl⟩ ?_)) rfl rfl ?_
    | refine RL.fin rfl ?_
    | refine W.drawn env_ok tbl0_ok (by kernel_rfl) rfl rfl rfl rfl ?_
    | refine W.block ?_
    | refine WR.next ?_
    | refine W.ret ?_
    | refine W.skip ?_
    | refine Then.ret ?_
    | refine Blk.normal ?_
    | refine Blk.ret ?_
    | refine Blk.out ?_
    | refine Blk.on rfl ?_
    | refine Then.exit ?_
    | refine W.exit ?_
    | refine Fin.ret rfl ?_
    | (refine OL.split rfl rfl rfl rfl rfl rfl (fun hb => ?_) (fun hb => ?_) <;> try contradiction)
    | (refine RL.split rfl rfl rfl rfl rfl rfl (fun hb => ?_) (fun hb => ?_) <;> try contradiction)
    | (refine W.cond rfl (fun hc => ?_) (fun hc => ?_) <;> try contradiction)
    | refine OL.quiet rfl (quiet_quo env_sym rfl rfl (by assumption)) rfl ?_
    | refine OL.quiet rfl (quiet_rem env_sym rfl rfl (by assumption)) rfl ?_
    | refine RL.quiet rfl rfl rfl rfl (quiet_quo env_sym rfl rfl (by assumption)) rfl rfl ?_
    | refine RL.quiet rfl rfl rfl rfl (quiet_rem env_sym rfl rfl (by assumption)) rfl rfl ?_)
  all_goals exact .eq (by simp [hb]) (.scal rfl)
theorem kind_walk (k : Int) : Walk env Proofs.Tryz.f41 [.int .i64 k] (.bool (decide (1 ≤ k) && decide (k ≤ 5))) := by
  refine ⟨_, _, rfl, rfl, rfl, ?_⟩
  repeat' (first
    | refine OL.op rfl ?_
    | refine OL.nil ?_
    | refine Then.normal ?_
    | refine W.seq ?_
    | refine W.region env_ok tblI_ok ?_
    | refine RL.quiet rfl rfl rfl rfl rfl rfl rfl ?_
    | refine RL.skip rfl rfl ?_
    | refine RL.read env_sym rfl rfl rfl rfl rfl rfl (by repeat' (first | exact .nil | exact .bit rfl | refine .chk ⟨_, rfl, rfl⟩ ?_)) rfl ?_
    | refine RL.alloc rfl rfl rfl rfl rfl ?_
    | refine RL.eff env_sym rfl rfl rfl rfl rfl (by repeat' (first | exact .nil | refine .bit rfl ?_ | refine .chk ⟨_, rfl, rfl⟩ ?_)) rfl rfl ?_
    | refine RL.fin rfl ?_
    | refine W.drawn env_ok tblI_ok (by kernel_rfl) rfl rfl rfl rfl ?_
    | refine W.block ?_
    | refine WR.next ?_
    | refine W.ret ?_
    | refine W.skip ?_
    | refine Then.ret ?_
    | refine Blk.normal ?_
    | refine Blk.ret ?_
    | refine Blk.out ?_
    | refine Blk.on rfl ?_
    | refine Then.exit ?_
    | refine W.exit ?_
    | refine Fin.ret rfl ?_
    | (refine OL.split rfl rfl rfl rfl rfl rfl (fun hb => ?_) (fun hb => ?_) <;> try contradiction)
    | (refine RL.split rfl rfl rfl rfl rfl rfl (fun hb => ?_) (fun hb => ?_) <;> try contradiction)
    | (refine W.cond rfl (fun hc => ?_) (fun hc => ?_) <;> try contradiction)
    | refine OL.quiet rfl (quiet_quo env_sym rfl rfl (by assumption)) rfl ?_
    | refine OL.quiet rfl (quiet_rem env_sym rfl rfl (by assumption)) rfl ?_
    | refine RL.quiet rfl rfl rfl rfl (quiet_quo env_sym rfl rfl (by assumption)) rfl rfl ?_
    | refine RL.quiet rfl rfl rfl rfl (quiet_rem env_sym rfl rfl (by assumption)) rfl rfl ?_)
  all_goals exact .eq rfl (.scal rfl)
def ofLinkX : List Value → Option Value
  | [.int .i64 k] => some (.bool (decide (k = 4) || decide (k = 5)))
  | _ => none
def kindX : List Value → Option Value
  | [.int .i64 k] => some (.bool (decide (1 ≤ k) && decide (k ≤ 5)))
  | _ => none
theorem ofLink_con : Con env 79 (pureX ofLinkX) := con_pure env_ok env_gl (fn := Proofs.Tryz.f79) rfl fun args v h => by
  unfold ofLinkX at h
  split at h
  · simp only [Option.some.injEq] at h
    subst h
    exact ⟨HF.cons (.scal rfl) HF.nil, ofLink_walk _⟩
  · cases h
theorem kind_con : Con env 41 (pureX kindX) := con_pure env_ok env_gl (fn := Proofs.Tryz.f41) rfl fun args v h => by
  unfold kindX at h
  split at h
  · simp only [Option.some.injEq] at h
    subst h
    exact ⟨HF.cons (.scal rfl) HF.nil, kind_walk _⟩
  · cases h
/-- What values a trouble may have. -/
def lowT (k : Int) : Int := bif decide (k = 3) then 200 else 0
def highT (k : Int) : Int := bif decide (k = 1) then 0 else bif decide (k = 3) then 599 else bif decide (k = 5) then 1000000000 else 1000000
def valueOk (x : Tr) : Bool := decide (lowT x.k ≤ x.v) && decide (x.v ≤ highT x.k)
theorem value_walk (x : Tr) : Walk env Proofs.Tryz.f80 [tv x] (.bool (valueOk x)) := by
  refine ⟨_, _, rfl, rfl, rfl, ?_⟩
  repeat' (first
    | refine OL.op rfl ?_
    | refine OL.nil ?_
    | refine Then.normal ?_
    | refine W.seq ?_
    | refine W.region env_ok tblI_ok ?_
    | refine RL.quiet rfl rfl rfl rfl rfl rfl rfl ?_
    | refine RL.skip rfl rfl ?_
    | refine RL.read env_sym rfl rfl rfl rfl rfl rfl (by repeat' (first | exact .nil | exact .bit rfl | refine .chk ⟨_, rfl, rfl⟩ ?_)) rfl ?_
    | refine RL.alloc rfl rfl rfl rfl rfl ?_
    | refine RL.eff env_sym rfl rfl rfl rfl rfl (by repeat' (first | exact .nil | refine .bit rfl ?_ | refine .chk ⟨_, rfl, rfl⟩ ?_)) rfl rfl ?_
    | refine RL.fin rfl ?_
    | refine W.drawn env_ok tblI_ok (by kernel_rfl) rfl rfl rfl rfl ?_
    | refine W.block ?_
    | refine WR.next ?_
    | refine W.ret ?_
    | refine W.skip ?_
    | refine Then.ret ?_
    | refine Blk.normal ?_
    | refine Blk.ret ?_
    | refine Blk.out ?_
    | refine Blk.on rfl ?_
    | refine Then.exit ?_
    | refine W.exit ?_
    | refine Fin.ret rfl ?_
    | (refine OL.split rfl rfl rfl rfl rfl rfl (fun hb => ?_) (fun hb => ?_) <;> try contradiction)
    | (refine RL.split rfl rfl rfl rfl rfl rfl (fun hb => ?_) (fun hb => ?_) <;> try contradiction)
    | (refine W.cond rfl (fun hc => ?_) (fun hc => ?_) <;> try contradiction)
    | refine OL.quiet rfl (quiet_quo env_sym rfl rfl (by assumption)) rfl ?_
    | refine OL.quiet rfl (quiet_rem env_sym rfl rfl (by assumption)) rfl ?_
    | refine RL.quiet rfl rfl rfl rfl (quiet_quo env_sym rfl rfl (by assumption)) rfl rfl ?_
    | refine RL.quiet rfl rfl rfl rfl (quiet_rem env_sym rfl rfl (by assumption)) rfl rfl ?_)
  all_goals
    refine .eq (congrArg Value.bool ?_) (.scal rfl)
    simp only [decide_eq_true_eq, decide_eq_false_iff_not] at *
    simp only [valueOk, lowT, highT, *]
    try simp
  rw [Bool.eq_iff_iff]; simp; omega
def valueX : List Value → Option Value
  | [.agg ⟨[.int .i64 k, .int .i64 n, .int .i64 f, .int .i64 t, .int .i64 v]⟩] => some (.bool (valueOk ⟨k, n, f, t, v⟩))
  | _ => none
theorem value_con : Con env 80 (pureX valueX) := con_pure env_ok env_gl (fn := Proofs.Tryz.f80) rfl fun args v h => by
  unfold valueX at h
  split at h
  · simp only [Option.some.injEq] at h
    subst h
    exact ⟨HF.cons (HF_tv ⟨_, _, _, _, _⟩) HF.nil, value_walk ⟨_, _, _, _, _⟩⟩
  · cases h
end
end Go.T9
