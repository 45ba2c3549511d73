/- A part of the proof. -/
import Derived.Test.YtcplcanaonmmpaaGreatDoorX1
set_option maxRecDepth 1000000
set_option linter.unusedVariables false
set_option linter.unusedSimpArgs false
namespace Go.T9
open Go Go.AM
set_option maxHeartbeats 40000000
noncomputable section
theorem check_walk (xs : List Tr) : Walk env Proofs.Tryz.f40 [dat 5 (xs.map tv)] (.int .i64 (checkF xs)) := by
  refine ⟨_, _, rfl, rfl, rfl, ?_⟩
  repeat' (first
    | refine OL.op rfl ?_
    | refine OL.nil ?_
    | refine Then.normal ?_
    | refine W.seq ?_
    | refine W.region env_ok tblC_ok ?_
    | refine RL.quiet rfl rfl rfl rfl rfl rfl rfl ?_
    | refine RL.skip rfl rfl ?_
    | refine RL.read env_sym rfl rfl rfl rfl rfl rfl (by repeat' (first | exact .nil | exact .bit rfl | refine .chk ⟨_, rfl, rfl⟩ ?_)) rfl ?_
    | refine RL.alloc rfl rfl rfl rfl rfl ?_
    | refine RL.eff env_sym rfl rfl rfl rfl rfl (by repeat' (first | exact .nil | refine .bit rfl ?_ | refine .chk ⟨_, rfl, rfl⟩ ?_)) rfl rfl ?_
    | refine RL.fin rfl ?_
    | refine W.drawn env_ok tblC_ok (by kernel_rfl) rfl rfl rfl rfl ?_
    | refine W.block ?_
    | refine WR.next ?_
    | refine W.ret ?_
    | refine W.skip ?_
    | refine Then.ret ?_
    | refine Blk.normal ?_
    | refine Blk.ret ?_
    | refine Blk.out ?_
    | refine Blk.on rfl ?_
    | refine Then.exit ?_
    | refine W.exit ?_
    | refine Fin.ret rfl ?_
    | (refine OL.split rfl rfl rfl rfl rfl rfl (fun hb => ?_) (fun hb => ?_) <;> try contradiction)
    | (refine RL.split rfl rfl rfl rfl rfl rfl (fun hb => ?_) (fun hb => ?_) <;> try contradiction)
    | (refine W.cond rfl (fun hc => ?_) (fun hc => ?_) <;> try contradiction)
    | refine OL.quiet rfl (quiet_quo env_sym rfl rfl (by assumption)) rfl ?_
    | refine OL.quiet rfl (quiet_rem env_sym rfl rfl (by assumption)) rfl ?_
    | refine RL.quiet rfl rfl rfl rfl (quiet_quo env_sym rfl rfl (by assumption)) rfl rfl ?_
    | refine RL.quiet rfl rfl rfl rfl (quiet_rem env_sym rfl rfl (by assumption)) rfl rfl ?_)
  · refine .eq (congrArg (Value.int .i64) ?_) (HFi _ _)
    simp only [List.length_map, decide_eq_true_eq] at hc
    have : 100 < xs.length := by omega
    simp [checkF, this]
  have hl : xs.length ≤ 100 := by simp only [List.length_map, decide_eq_false_iff_not] at hc; omega
  have he : checkF xs = faultT xs := by simp [checkF, show ¬ 100 < xs.length by omega]
  rw [he]
  refine W.loopT (fun m F A => ∃ i : Nat, F = frC xs i ∧ A = ⟨.leaf, 0⟩ ∧ i + m = xs.length ∧ faultT (xs.drop i) = faultT xs) ?_ (m := xs.length) ⟨0, rfl, rfl, by simp, by simp⟩ ?_
  · rintro m F A ⟨i, rfl, rfl, hm, hfind⟩
    by_cases hlt : i < xs.length
    · obtain ⟨x, hx⟩ : ∃ x, xs[i]? = some x := ⟨xs[i], by simp [hlt]⟩
      have hn := nth_map (f := tv) hx
      have hd := drop_cons hx
      unfold frC
      repeat' (first
    | refine OL.op rfl ?_
    | refine OL.nil ?_
    | refine Then.normal ?_
    | refine W.seq ?_
    | refine W.region env_ok tblC_ok ?_
    | refine RL.quiet rfl rfl rfl rfl rfl rfl rfl ?_
    | refine RL.skip rfl rfl ?_
    | refine RL.read env_sym rfl rfl rfl rfl rfl rfl (by repeat' (first | exact .nil | exact .bit rfl | refine .chk ⟨_, rfl, rfl⟩ ?_)) rfl ?_
    | refine RL.alloc rfl rfl rfl rfl rfl ?_
    | refine RL.eff env_sym rfl rfl rfl rfl rfl (by repeat' (first | exact .nil | refine .bit rfl ?_ | refine .chk ⟨_, rfl, rfl⟩ ?_)) rfl rfl ?_
    | refine RL.fin rfl ?_
    | refine W.drawn env_ok tblC_ok (by kernel_rfl) rfl rfl rfl rfl ?_
    | refine W.block ?_
    | refine WR.next ?_
    | refine W.ret ?_
    | refine W.skip ?_
    | refine Then.ret ?_
    | refine Blk.normal ?_
    | refine Blk.ret ?_
    | refine Blk.out ?_
    | refine Blk.on rfl ?_
    | refine Then.exit ?_
    | refine W.exit ?_
    | refine Fin.ret rfl ?_
    | (refine OL.split rfl rfl rfl rfl rfl rfl (fun hb => ?_) (fun hb => ?_) <;> try contradiction)
    | (refine RL.split rfl rfl rfl rfl rfl rfl (fun hb => ?_) (fun hb => ?_) <;> try contradiction)
    | (refine W.cond rfl (fun hc => ?_) (fun hc => ?_) <;> try (first | contradiction | (exfalso; simp at hc; omega)))
    | refine OL.quiet rfl (quiet_quo env_sym rfl rfl (by assumption)) rfl ?_
    | refine OL.quiet rfl (quiet_rem env_sym rfl rfl (by assumption)) rfl ?_
    | refine RL.quiet rfl rfl rfl rfl (quiet_quo env_sym rfl rfl (by assumption)) rfl rfl ?_
    | refine RL.quiet rfl rfl rfl rfl (quiet_rem env_sym rfl rfl (by assumption)) rfl rfl ?_
    | refine OL.quiet rfl (quiet_idx env_sym rfl rfl rfl rfl rfl (Int.natCast_nonneg i) (by simpa using hlt)) rfl ?_
    | refine OL.quiet rfl (quiet_load env_sym rfl hn rfl) rfl ?_)
      all_goals first
        | (refine .eq (congrArg (Value.int .i64) ?_) (HFi _ _)
           rw [← hfind, hd]
           clear hfind hd hn hx
           try simp only [w49, valueOk_eta, decide_eq_true_eq, decide_eq_false_iff_not, Bool.not_eq_true', Bool.not_eq_false', Bool.and_eq_true, Bool.and_eq_false_iff, Bool.or_eq_true, Bool.or_eq_false_iff, value_iff, value_no] at *
           first | exact f7 (by omega) | exact f9 (by omega) (by unfold RangeP; omega))
        | (refine ⟨m - 1, frC xs (i + 1), ⟨.leaf, 0⟩, by omega, ⟨i + 1, rfl, rfl, by omega, ?_⟩, Turns.ren env_gl rfl [] [(9, (dat 5 (xs.map tv))), (10, (.int .i64 xs.length)), (11, (.int .i64 (i + 1 : Nat)))] [] 0 rfl (by kernel_rfl) rfl ?_ .nil⟩
           · rw [← hfind, hd]
             clear hfind hd hn hx
             try simp only [w49, valueOk_eta, decide_eq_true_eq, decide_eq_false_iff_not, Bool.not_eq_true', Bool.not_eq_false', Bool.and_eq_true, Bool.and_eq_false_iff, Bool.or_eq_true, Bool.or_eq_false_iff, value_iff, value_no] at *
             exact fgo (by omega) (by unfold RangeP; omega)
           · (repeat' (first | exact .nil | refine .cons rfl (.hf (HFi _ _)) ?_ | refine .cons rfl (.hf (HFb _)) ?_ | refine .cons rfl (.hf (HF_trs _)) ?_ | refine .consE rfl (idx_succ (by omega)) (.hf (HFi _ _)) ?_ | refine .consE rfl (by simp) (.hf (HFi _ _)) ?_)))
    · have hd : xs.drop i = [] := List.drop_eq_nil_of_le (by omega)
      unfold frC
      repeat' (first
    | refine OL.op rfl ?_
    | refine OL.nil ?_
    | refine Then.normal ?_
    | refine W.seq ?_
    | refine W.region env_ok tblC_ok ?_
    | refine RL.quiet rfl rfl rfl rfl rfl rfl rfl ?_
    | refine RL.skip rfl rfl ?_
    | refine RL.read env_sym rfl rfl rfl rfl rfl rfl (by repeat' (first | exact .nil | exact .bit rfl | refine .chk ⟨_, rfl, rfl⟩ ?_)) rfl ?_
    | refine RL.alloc rfl rfl rfl rfl rfl ?_
    | refine RL.eff env_sym rfl rfl rfl rfl rfl (by repeat' (first | exact .nil | refine .bit rfl ?_ | refine .chk ⟨_, rfl, rfl⟩ ?_)) rfl rfl ?_
    | refine RL.fin rfl ?_
    | refine W.drawn env_ok tblC_ok (by kernel_rfl) rfl rfl rfl rfl ?_
    | refine W.block ?_
    | refine WR.next ?_
    | refine W.ret ?_
    | refine W.skip ?_
    | refine Then.ret ?_
    | refine Blk.normal ?_
    | refine Blk.ret ?_
    | refine Blk.out ?_
    | refine Blk.on rfl ?_
    | refine Then.exit ?_
    | refine W.exit ?_
    | refine Fin.ret rfl ?_
    | (refine OL.split rfl rfl rfl rfl rfl rfl (fun hb => ?_) (fun hb => ?_) <;> try contradiction)
    | (refine RL.split rfl rfl rfl rfl rfl rfl (fun hb => ?_) (fun hb => ?_) <;> try contradiction)
    | (refine W.cond rfl (fun hc => ?_) (fun hc => ?_) <;> try (first | contradiction | (exfalso; simp at hc; omega)))
    | refine OL.quiet rfl (quiet_quo env_sym rfl rfl (by assumption)) rfl ?_
    | refine OL.quiet rfl (quiet_rem env_sym rfl rfl (by assumption)) rfl ?_
    | refine RL.quiet rfl rfl rfl rfl (quiet_quo env_sym rfl rfl (by assumption)) rfl rfl ?_
    | refine RL.quiet rfl rfl rfl rfl (quiet_rem env_sym rfl rfl (by assumption)) rfl rfl ?_)
      refine .eq (congrArg (Value.int .i64) ?_) (HFi _ _)
      rw [← hfind, hd]; rfl
  · refine Turns.ren env_gl rfl [] [(9, (dat 5 (xs.map tv))), (10, (.int .i64 xs.length)), (11, (.int .i64 (0 : Nat)))] [] 0 rfl (by kernel_rfl) rfl ?_ .nil
    (repeat' (first | exact .nil | refine .cons rfl (.hf (HFi _ _)) ?_ | refine .cons rfl (.hf (HFb _)) ?_ | refine .cons rfl (.hf (HF_trs _)) ?_ | refine .consE rfl (idx_succ (by omega)) (.hf (HFi _ _)) ?_ | refine .consE rfl (by simp) (.hf (HFi _ _)) ?_))
end
end Go.T9
